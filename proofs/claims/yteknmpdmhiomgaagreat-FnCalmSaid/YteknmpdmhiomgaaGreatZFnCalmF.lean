/- Lemmas of this claim. -/
import Derived.Test.YteknmpdmhiomgaaGreatZFnCalmE
set_option maxHeartbeats 16000000
set_option maxRecDepth 100000
set_option linter.unusedVariables false
set_option linter.unusedSimpArgs false
namespace Go.Proofs.YteknmpdmhiomgaaGreat
open _root_.Go.Proofs.Tryz
open _root_.Bool renaming and_eq_true->RP,true_and->Sa,false_or->Sf,true_or->Sh,or_eq_true->Sm,not_eq_true->Sr
open _root_.Nat renaming zero_le->RQ,le_refl->R1,add_assoc->Su,le_trans->Sv,sub_self->Sx,add_zero->Sy
open _root_.Int renaming eq_ofNat_of_zero_le->RR,ofNat_lt->Sb,toNat_natCast->Sd,mul_one->Sq
open _root_.List renaming drop_eq_getElem_cons->RS,length_append->RT,length_set->RU,take_of_length_le->RV,take_succ_eq_append_getElem->RW,append_nil->RX,map_cons->RY,drop_eq_nil_of_le->RZ,append_assoc->R0,map_append->R2,length_take->R3,drop_of_length_le->R4,length_filter_le->R5,getElem?_eq_getElem->R6,getElem_mem->R7,length_drop->R8,take_length->R9,getD_eq_getElem?_getD->R_,getElem_take->Se,length_singleton->Sg,map_set->Si,length_cons->Sj,map_nil->Sk,length_map->Sl,all_cons->Sn,foldl_append->So,flatMap_cons->Sp,length_nil->Ss,all_nil->Sw
section
open Go.RowKit
theorem FM {cs:List Value} (h:pv [.byte] cs):∃ n:UInt8,L2 (ScR []) (gf n) cs/\True:=by
 obtain⟨_,_,rfl,⟨n,rfl,h0,h1⟩,rfl⟩:=h
 refine⟨UInt8.ofNat n.toNat,⟨?_,trivial⟩,trivial⟩
 show Value.int .u8 n=.int .u8 ((UInt8.ofNat n.toNat).toNat:Nat)
 congr 1
 rw [UInt8.toNat_ofNat']
 omega
structure CurD where
 i:Nat
 h:Int
def CurD.cs (c:CurD) (b:List UInt8):List Sc:=[.sl 0 0 b.length,.int .i64 (c.i:Nat),.int .i64 c.h]
def CurD.hp (c:CurD) (b:List UInt8):Hp:=[some ⟨b.map gf,1,5,false,true⟩,some ⟨[c.cs b],3,80,true,false⟩]
def CurD.ok (c:CurD) (b:List UInt8):Prop:=c.i<=b.length/\b.length<=1048576
attribute [go_sem] CurD.cs CurD.hp
def pC (a b:Int):Int:=IntKind.i64.wrap (BitVec.ofInt 64 a &&& BitVec.ofInt 64 b).toNat
def Hz (a b:Int):Int:=IntKind.i64.wrap (BitVec.ofInt 64 a ^^^ BitVec.ofInt 64 b).toNat
theorem BE (a:Int):0<=pC a 255/\pC a 255<=255:=by
 have h:(BitVec.ofInt 64 a &&& BitVec.ofInt 64 255).toNat<=255:=by
  rw [BitVec.toNat_and]
  exact Sv Nat.and_le_right zD
 have e:pC a 255=((BitVec.ofInt 64 a &&& BitVec.ofInt 64 255).toNat:Int):=yV (by
  have h':(BitVec.ofInt 64 a &&& BitVec.ofInt 64 255).toNat<=255:=h
  omega)
 rw [e]
 omega
def CurD.nxt (c:CurD):Int:=IntKind.i64.wrap (IntKind.i64.wrap (c.h*6364136223846793005)+1442695040888963407)
def CurD.x0 (c:CurD):Int:=pC (Hz (c.nxt.fdiv (2 ^ min 33 64)) (c.nxt.fdiv (2 ^ min 45 64))) 255
def CurD.bv (c:CurD) (b:List UInt8):Int:=if h:c.i < b.length then pC (IntKind.i64.wrap (c.x0+b[c.i].toNat)) 255 else c.x0
def CurD.bn (c:CurD) (b:List UInt8):CurD:=if c.i < b.length then⟨c.i+1,c.nxt⟩ else⟨c.i,c.nxt⟩
theorem CurD.bv_le (c:CurD) (b:List UInt8):0<=c.bv b/\c.bv b<=255:=by
 rw [CurD.bv]
 split
 ·exact BE _
 exact BE _
theorem CurD.bn_ok {c:CurD} {b:List UInt8} (h:c.ok b):(c.bn b).ok b:=by
 rw [CurD.bn]
 split
 ·rename_i hi;exact⟨hi,h.2⟩
 exact h
theorem rH (a b:Int):CQ .and .i64 a b=some (.int .i64 (pC a b),True):=rfl
theorem wx (a b:Int):CQ .xor .i64 a b=some (.int .i64 (Hz a b),True):=rfl
theorem Nn (c:CurD):IntKind.i64.wrap (IntKind.i64.wrap (c.h*6364136223846793005)+1442695040888963407)=c.nxt:=rfl
theorem KQ (c:CurD):pC (Hz (c.nxt.fdiv (2 ^ min 33 64)) (c.nxt.fdiv (2 ^ min 45 64))) 255=c.x0:=rfl
theorem fW (b:List UInt8) (c:CurD) (hc:c.ok b):aP 54 [.sc (.pt 1 0 0)] (c.hp b) (.sc (.int .i64 (c.bv b))) ((c.bn b).hp b):=by
 have hi:=hc.1
 have hb:=hc.2
 refine gn func54 (by kernel_rfl) rfl fun E hE=>ae 400 ?_
 simp (disch:=omega) only [ntmps54,results54,go_sem,↓rH,↓wx,seval]
 simp only [Nn]
 refine cD (qU [0,13]) (by kernel_rfl) (qC) (by kernel_rfl) (aa 400 ?_)
 simp (disch:=omega) only [go_sem,↓rH,↓wx,seval]
 simp only [KQ]
 have hx:=BE (Hz (c.nxt.fdiv (2 ^ min 33 64)) (c.nxt.fdiv (2 ^ min 45 64)))
 rw [KQ] at hx
 have e1:c.bv b=if h:c.i < b.length then pC (IntKind.i64.wrap (c.x0+b[c.i].toNat)) 255 else c.x0:=by rw [CurD.bv]
 have e2:(c.bn b)=if c.i < b.length then⟨c.i+1,c.nxt⟩ else⟨c.i,c.nxt⟩:=by rw [CurD.bn]
 generalize c.x0=x0 at*
 generalize c.nxt=nx at*
 refine qG ?_
 refine qD [0,1,2,3,4,5,6,7,8,9] ?_
 refine qG ?_
 refine qB (fun h=>?_) fun h=>?_
 ·have hbn:=b[c.i].toNat_lt
  rw [dif_pos h,yV zO] at e1
  rw [if_pos h] at e2
  rw [e1,e2]
  refine cD (qU [0,15]) (by kernel_rfl) (qC) (by kernel_rfl) (aa 400 ?_)
  simp (disch:=omega) only [go_sem,gf,↓rH,↓wx,seval]
  generalize pC (x0+b[c.i].toNat) 255=y
  refine qG ?_
  exact qF (qI 0 2)
 rw [dif_neg h] at e1
 rw [if_neg h] at e2
 rw [e1,e2]
 exact qF (qI 0 2)
def CurD.below (c:CurD) (b:List UInt8) (n:Int):Int×CurD:=
 if n<=0 then (0,c) else if n<=256 then ((c.bv b).tmod n,(c.bn b)) else ((c.bv b*16777216+(c.bn b).bv b*65536+((c.bn b).bn b).bv b*256+(((c.bn b).bn b).bn b).bv b).tmod n,(((c.bn b).bn b).bn b).bn b)
theorem CurD.below_ok {b:List UInt8} {c:CurD} (h:c.ok b) (n:Int):(c.below b n).2.ok b:=by
 rw [CurD.below]
 split
 ·exact h
 split
 ·exact CurD.bn_ok h
 exact CurD.bn_ok (CurD.bn_ok (CurD.bn_ok (CurD.bn_ok h)))
theorem CurD.below_lt (c:CurD) (b:List UInt8) {n:Int} (h:0 < n):0<=(c.below b n).1/\(c.below b n).1 < n:=by
 have t:∀ m:Int,0<=m->0<=m.tmod n/\m.tmod n < n:=fun m hm=>⟨Int.tmod_nonneg _ hm,Int.tmod_lt_of_pos _ h⟩
 have h0:=c.bv_le b
 have h1:=(c.bn b).bv_le b
 have h2:=((c.bn b).bn b).bv_le b
 have h3:=(((c.bn b).bn b).bn b).bv_le b
 rw [CurD.below,if_neg zO]
 split
 ·exact t _ h0.1
 exact t _ zO
theorem au (b:List UInt8) (c:CurD) (hc:c.ok b) (n:Int):aP 28 [.sc (.pt 1 0 0),.sc (.int .i64 n)] (c.hp b) (.sc (.int .i64 (c.below b n).1)) ((c.below b n).2.hp b):=by
 have h0:=c.bv_le b
 have h1:=(c.bn b).bv_le b
 have h2:=((c.bn b).bn b).bv_le b
 have h3:=(((c.bn b).bn b).bn b).bv_le b
 have k1:=CurD.bn_ok hc
 have k2:=CurD.bn_ok k1
 have k3:=CurD.bn_ok k2
 obtain⟨r,hr⟩:∃ r,r=c.below b n:=⟨_,rfl⟩
 rw [<-hr]
 rw [CurD.below] at hr
 refine qE func28 ntmps28 results28 fun E hE=>?_
 refine qB (fun h=>?_) fun h=>?_
 ·rw [if_pos zO] at hr
  subst hr
  exact qF (qI 0 2)
 rw [if_neg zO] at hr
 refine qB (fun h4=>?_) fun h4=>?_
 ·rw [if_pos zO] at hr
  refine qK (fW b c hc) (qI 0 2) ?_
  subst hr
  exact qF (qI 0 2)
 rw [if_neg zO] at hr
 refine qK (fW b c hc) (qI 0 2) ?_
 refine qK (fW b (c.bn b) k1) (qI 0 2) ?_
 refine qK (fW b ((c.bn b).bn b) k2) (qI 0 2) ?_
 refine qK (fW b (((c.bn b).bn b).bn b) k3) (qI 0 2) ?_
 subst hr
 exact qF (qI 0 2)
theorem md (b:List UInt8) (c:CurD) (hc:c.ok b) (n:Int):aP 57 [.sc (.pt 1 0 0),.sc (.int .i64 n)] (c.hp b) (.sc (.bo ((c.below b n).1 == 0))) ((c.below b n).2.hp b):=by
 refine qE func57 ntmps57 results57 fun E hE=>?_
 refine qK (au b c hc n) (qI 0 2) ?_
 exact qF (qI 0 2)
def CurD.pick (c:CurD) (b:List UInt8) (l:List Int):Int:=l.getD (c.below b l.length).1.toNat 0
theorem dK (b:List UInt8) (c:CurD) (hc:c.ok b) (l:List Int) (h0:0 < l.length) (hl:l.length<=1000):aP 55 [.sc (.pt 1 0 0),.sc (.sl 2 0 l.length)] (c.hp b++[some ⟨l.map bh,1,3,false,true⟩]) (.sc (.int .i64 (c.pick b l))) (((c.below b l.length).2.hp b)++[some ⟨l.map bh,1,3,false,true⟩]):=by
 have hb:=c.below_lt b (n:=(l.length:Int)) zO
 have hp:c.pick b l=l.getD (c.below b l.length).1.toNat 0:=rfl
 have hk:=au b c hc l.length
 rw [hp]
 generalize c.below b l.length=r at*
 obtain⟨v,c1⟩:=r
 dsimp only at hb hk⊢
 obtain⟨k,rfl⟩:=RR hb.1
 refine qE func55 ntmps55 results55 fun E hE=>?_
 refine qK (hk) (qI 0 2) ?_
 have hlt:k < l.length:=zO
 try simp (disch:=omega) only [go_sem,seval,Di _ hlt]
 exact qF (qI 0 3)
theorem CurD.pick_mem (c:CurD) (b:List UInt8) {l:List Int} (h:0 < l.length):c.pick b l∈l:=by
 have hb:=c.below_lt b (n:=(l.length:Int)) zO
 rw [CurD.pick,R_,R6 zO]
 exact R7 _
def wy (h:Int) (x:UInt8):Int:=pC (IntKind.i64.wrap (IntKind.i64.wrap (IntKind.i64.wrap (h*131)+x.toNat)+7)) 1073741823
def KR (b:List UInt8):Int:=(b.take 4000).foldl wy (94701+(b.length:Int))
def wz (b:List UInt8):CurD:=⟨0,KR b⟩
theorem I0 {b:List UInt8} (h:b.length<=1048576):(wz b).ok b:=⟨RQ _,h⟩
theorem I1 {b:List UInt8} {k:Nat} {h0:Int} (h:k < b.length):(b.take (k+1)).foldl wy h0=wy ((b.take k).foldl wy h0) b[k]:=by
 rw [RW h,So]
 rfl
theorem Dj (b:List UInt8) (hb:b.length<=1048576):aP 14 [.sc (.sl 0 0 b.length)] [some ⟨b.map gf,1,5,false,true⟩] (.sc (.pt 1 0 0)) ((wz b).hp b):=by
 refine qE func14 ntmps14 results14 fun E hE=>?_
 refine ir 1 hE (fun s (k:Nat)=>s.at (qU [5,23]) [(4,.sc (.int .i64 (k:Nat))),(3,.sc (.int .i64 ((b.take k).foldl wy (94701+(b.length:Int)))))] (s.hp)) (fun (k:Nat)=>k<=b.length/\k<=4000) (fun (k:Nat)=>b.length - k) 0 (qI 0 1) (qC) (⟨RQ _,RQ _⟩) (aO zF zF ?_) fun k hk N hN=>?_
 ·refine qX ?_
  rfl
 refine qR ?_
 refine qB (fun h1=>?_) fun h1=>?_
 ·split<;>rename_i h2<;>simp only [decide_eq_true_eq,decide_eq_false_iff_not] at h2
  ·simp (disch:=omega) only [go_sem,gf,↓rH,seval]
   refine⟨qC,hN _ (k+1) (qI 0 1) (by (try dsimp only);exact⟨zO,zO⟩) (by (try dsimp only);omega) (aO zF zF ?_)⟩
   refine qX ?_
   rw [I1 h1,yV (n:=(b[k].toNat:Int)) (by have:=b[k].toNat_lt;omega)]
   rfl
  have e:KR b=(b.take k).foldl wy (94701+(b.length:Int)):=by
   rw [KR,show k=4000 by omega]
  refine qX ?_
  refine qJ (qI 0 2) ?_
  rw [wz,e]
  exact⟨rfl,rfl⟩
 have e:KR b=(b.take k).foldl wy (94701+(b.length:Int)):=by
  rw [KR,RV zO,RV zO]
 refine qJ (qI 0 2) ?_
 rw [wz,e]
 exact⟨rfl,rfl⟩
def fj (s:Int) (p:PolicyD):EndD:=⟨s,0,0,0,p,gj (10*s+1),[],[],[],⟨1,3,3⟩,⟨[],0,0,120⟩,⟨0,[],[]⟩,[],[],1000+s,0,0⟩
def wU (e:EndD):Bool:=decide (e.own.length<=1048576) && decide (e.far.length<=1048576) && decide (e.subs.length<=1048576) && decide (e.halfs.length<=1048576) && decide (e.inp.list.length<=1048576) && decide (e.done.length<=1048576) && decide (e.over.length<=1048576)
theorem qd {e:EndD} (h:wU e=true):Small e:=by
 simp only [wU,RP,decide_eq_true_eq] at h
 exact⟨h.1.1.1.1.1.1,h.1.1.1.1.1.2,h.1.1.1.1.2,h.1.1.1.2,h.1.1.2,h.1.2,h.2⟩
theorem rX (e:EndD) (x:LetterD) (hs:Small e):aP 186 [.ag (e.cs 0),.ag x.cs] (e.hp false) (.tu [.ag ((aq e x).1.cs 7),.sc (.sl 14 0 (aq e x).2.length)])
  (e.hp false++((aq e x).1.hp true++[some ⟨(aq e x).2.map LetterD.cs,19,73,true,true⟩])):=by
 have hC:=(qH (aV e))
 have hK:=(qH (cd e))
 have hS:=fO e (roadOf x) (by have:=hs.subs;omega)
 have hH:=jq e.halfs (roadOf x) (by have:=hs.halfs;omega)
 have hD:=y6 e.halfs (roadOf x) (by have:=hs.halfs;omega)
 have hL:=cu x
 have hbS:=fh e.subs (roadOf x)
 have hbH:=gW e.halfs (roadOf x)
 have hf:=Nu (e:=e) (x:=x)
 have hf2:=HK (e:=e) (x:=x)
 have hb:=fun n=> @OZ e x n
 have ha1:=fun i n=> @Lc e x i n
 have ha2:=fun i=> @Ld e x i
 generalize aq e x=R at*
 refine qE func186 ntmps186 results186 fun E hE=>?_
 refine qK (hC) (qI 0 7) ?_
 refine qK (hK) (qI 0 7) ?_
 refine qB (fun h1=>?_) fun h1=>?_
 ·refine qK (hL) [] ?_
  refine qB (fun h2=>?_) fun h2=>?_
  ·refine qB (fun h3=>?_) fun h3=>?_
   ·rw [hf (by simp [lj,h1,h2,h3])]
    refine qX ?_
    exact qF (qI 0 7++qI 10 7++qO 1)
   have hin:lj e x=true:=by simp [lj,h1,h2,h3]
   refine qX ?_
   refine qK (dV x) [] ?_
   refine qK (hH) (qI 3 1) ?_
   refine qK (hS) (qI 0 7) ?_
   rcases hbS with hk|⟨hk0,hk1⟩
   ·rcases hbH with hi|⟨hi0,hi1⟩
    ·rw [hi]
     rw [hk]
     refine qX ?_
     refine qD [0,1,2,3,4,5,6,7,8,9,10,11,12,13,14,15,16,17,18,19,20,21,22,23,24,25,26,27,28,29] ?_
     refine qG ?_
     rw [hf2 hin (BQ hi) (tK hk)]
     refine qD [0,1,2,3,4,5,6,7,8,9,10,11,12,13,14,15,16,17,18,19,20,21,22,23,24,25,26,27,28,29,30,31,32] ?_
     refine qG ?_
     exact qF (qI 0 7++qI 10 7++qO 1)
    obtain⟨i,hi⟩:=RR hi0
    have hil:i < e.halfs.length:=zO
    have hcmp:=TagD.cmp x.tag ⟨2,e.peer,e.key,e.halfs[i].theirs,e.halfs[i].mine⟩
    simp only [TagD.cs,go_sem] at hcmp
    rw [hi]
    rw [hk]
    refine qX ?_
    refine qD [0,1,2,3,4,5,6,7,8,9,10,11,12,13,14,15,16,17,18,19,20,21,22,23,24,25,26,27,28,29] ?_
    refine qB (fun h4=>?_) fun h4=>?_
    ·refine aE (fX _ _ _ _) [] ?_
     refine⟨qC,ae 400 ?_⟩
     try simp (disch:=omega) only [go_sem,seval,hcmp]
     refine qB (fun h5=>?_) fun h5=>?_
     ·have hjA:pL e x=true:=by rw [iZ hi hil];simp [h4,h5];try omega
      rw [ha2 _ hin hjA hi hil hk]
      refine qX ?_
      refine qK (hD) (qI 3 1) ?_
      refine qD [0,1,2,3,4,5,6] ?_
      refine aE (fP (roadOf x) e.halfs[i].give) [] ?_
      refine qG ?_
      refine qP (qI 0 7++qI 10 2++qI 21 2++qI 14 3++qI 23 1) ?_
      first|exact⟨⟩|simp [Si,SubD.cs,fi]
     have hjA':pL e x=false:=by rw [iZ hi hil];simp [h5]
     refine qX ?_
     rw [hf2 hin (hjA') (tK hk)]
     refine qD [0,1,2,3,4,5,6,7,8,9,10,11,12,13,14,15,16,17,18,19,20,21,22,23,24,25,26,27,28,29,30,31,32] ?_
     refine qG ?_
     exact qF (qI 0 7++qI 10 7++qO 1)
    have hjA':pL e x=false:=by rw [iZ hi hil];simp;omega
    refine qG ?_
    rw [hf2 hin (hjA') (tK hk)]
    refine qD [0,1,2,3,4,5,6,7,8,9,10,11,12,13,14,15,16,17,18,19,20,21,22,23,24,25,26,27,28,29,30,31,32] ?_
    refine qG ?_
    exact qF (qI 0 7++qI 10 7++qO 1)
   obtain⟨n,hk⟩:=RR hk0
   have hn:n < e.subs.length:=zO
   have hrd:=wN hk hn
   rcases hbH with hi|⟨hi0,hi1⟩
   ·rw [hi]
    rw [hk]
    refine qX ?_
    refine qD [0,1,2,3,4,5,6,7,8,9,10,11,12,13,14,15,16,17,18,19,20,21,22,23,24,25,26,27,28,29] ?_
    refine qG ?_
    have hcmp2:=TagD.cmp x.tag ⟨2,e.peer,e.key,e.subs[n].theirs,e.subs[n].mine⟩
    simp only [TagD.cs,go_sem] at hcmp2
    have hjA:=BQ hi
    refine qD [0,1,2,3,4,5,6,7,8,9,10,11,12,13,14,15,16,17,18,19,20,21,22,23,24,25,26,27,28,29,30,31,32] ?_
    refine qB (fun h6=>?_) fun h6=>?_
    ·refine aE (fX _ _ _ _) [] ?_
     refine⟨qC,ae 400 ?_⟩
     try simp (disch:=omega) only [go_sem,seval,hcmp2]
     refine qB (fun h7=>?_) fun h7=>?_
     ·rw [hb _ hin hjA (by rw [fA hk hn];simp [h6,h7]) hk hn]
      refine qX ?_
      refine qD [0,1,2,3,4,5,6,7,8,9,10] ?_
      refine aE (fP (roadOf x) e.subs[n].give) [] ?_
      refine qG ?_
      refine qP (qI 0 7++qI 10 7++qI 19 1) ?_
      first|exact⟨⟩|simp
     rw [hf2 hin hjA (by rw [fA hk hn];simp [h6,h7])]
     refine qX ?_
     exact qF (qI 0 7++qI 10 7++qO 1)
    rw [hf2 hin hjA (by rw [fA hk hn];simp [h6])]
    refine qG ?_
    exact qF (qI 0 7++qI 10 7++qO 1)
   obtain⟨i,hi⟩:=RR hi0
   have hil:i < e.halfs.length:=zO
   have hcmp:=TagD.cmp x.tag ⟨2,e.peer,e.key,e.halfs[i].theirs,e.halfs[i].mine⟩
   simp only [TagD.cs,go_sem] at hcmp
   rw [hi]
   rw [hk]
   refine qX ?_
   refine qD [0,1,2,3,4,5,6,7,8,9,10,11,12,13,14,15,16,17,18,19,20,21,22,23,24,25,26,27,28,29] ?_
   refine qB (fun h4=>?_) fun h4=>?_
   ·refine aE (fX _ _ _ _) [] ?_
    refine⟨qC,ae 400 ?_⟩
    try simp (disch:=omega) only [go_sem,seval,hcmp]
    refine qB (fun h5=>?_) fun h5=>?_
    ·have hjA:pL e x=true:=by rw [iZ hi hil];simp [h4,h5];try omega
     rw [ha1 _ _ hin hjA hi hil hk hn]
     refine qX ?_
     refine qK (hD) (qI 3 1) ?_
     refine qD [0,1,2,3,4,5,6] ?_
     refine aE (fP (roadOf x) e.halfs[i].give) [] ?_
     refine qG ?_
     refine qP (qI 0 7++qI 10 2++qI 21 2++qI 14 3++qI 23 1) ?_
     first|exact⟨⟩|simp [Si,SubD.cs,fi]
    have hjA':pL e x=false:=by rw [iZ hi hil];simp [h5]
    refine qX ?_
    have hcmp2:=TagD.cmp x.tag ⟨2,e.peer,e.key,e.subs[n].theirs,e.subs[n].mine⟩
    simp only [TagD.cs,go_sem] at hcmp2
    have hjA:=hjA'
    refine qD [0,1,2,3,4,5,6,7,8,9,10,11,12,13,14,15,16,17,18,19,20,21,22,23,24,25,26,27,28,29,30,31,32] ?_
    refine qB (fun h6=>?_) fun h6=>?_
    ·refine aE (fX _ _ _ _) [] ?_
     refine⟨qC,ae 400 ?_⟩
     try simp (disch:=omega) only [go_sem,seval,hcmp2]
     refine qB (fun h7=>?_) fun h7=>?_
     ·rw [hb _ hin hjA (by rw [fA hk hn];simp [h6,h7]) hk hn]
      refine qX ?_
      refine qD [0,1,2,3,4,5,6,7,8,9,10] ?_
      refine aE (fP (roadOf x) e.subs[n].give) [] ?_
      refine qG ?_
      refine qP (qI 0 7++qI 10 7++qI 19 1) ?_
      first|exact⟨⟩|simp
     rw [hf2 hin hjA (by rw [fA hk hn];simp [h6,h7])]
     refine qX ?_
     exact qF (qI 0 7++qI 10 7++qO 1)
    rw [hf2 hin hjA (by rw [fA hk hn];simp [h6])]
    refine qG ?_
    exact qF (qI 0 7++qI 10 7++qO 1)
   have hjA':pL e x=false:=by rw [iZ hi hil];simp;omega
   refine qG ?_
   have hcmp2:=TagD.cmp x.tag ⟨2,e.peer,e.key,e.subs[n].theirs,e.subs[n].mine⟩
   simp only [TagD.cs,go_sem] at hcmp2
   have hjA:=hjA'
   refine qD [0,1,2,3,4,5,6,7,8,9,10,11,12,13,14,15,16,17,18,19,20,21,22,23,24,25,26,27,28,29,30,31,32] ?_
   refine qB (fun h6=>?_) fun h6=>?_
   ·refine aE (fX _ _ _ _) [] ?_
    refine⟨qC,ae 400 ?_⟩
    try simp (disch:=omega) only [go_sem,seval,hcmp2]
    refine qB (fun h7=>?_) fun h7=>?_
    ·rw [hb _ hin hjA (by rw [fA hk hn];simp [h6,h7]) hk hn]
     refine qX ?_
     refine qD [0,1,2,3,4,5,6,7,8,9,10] ?_
     refine aE (fP (roadOf x) e.subs[n].give) [] ?_
     refine qG ?_
     refine qP (qI 0 7++qI 10 7++qI 19 1) ?_
     first|exact⟨⟩|simp
    rw [hf2 hin hjA (by rw [fA hk hn];simp [h6,h7])]
    refine qX ?_
    exact qF (qI 0 7++qI 10 7++qO 1)
   rw [hf2 hin hjA (by rw [fA hk hn];simp [h6])]
   refine qG ?_
   exact qF (qI 0 7++qI 10 7++qO 1)
  rw [hf (by simp [lj,h2])]
  refine qX ?_
  exact qF (qI 0 7++qI 10 7++qO 1)
 rw [hf (by simp [lj,h1])]
 refine qX ?_
 exact qF (qI 0 7++qI 10 7++qO 1)
theorem rY (e:EndD) (x:LetterD) (hs:Small e):aP 207 [.ag (e.cs 0),.ag x.cs] (e.hp false) (.tu [.ag ((aq e x).1.cs 7),.sc (.sl 14 0 (aq e x).2.length)])
  (e.hp false++((aq e x).1.hp true++[some ⟨(aq e x).2.map LetterD.cs,19,73,true,true⟩])):=by
 have hC:=(qH (aA e))
 have hK:=(qH (a_ e))
 have hS:=fd e (roadOf x) (by have:=hs.subs;omega)
 have hH:=js e.halfs (roadOf x) (by have:=hs.halfs;omega)
 have hD:=y7 e.halfs (roadOf x) (by have:=hs.halfs;omega)
 have hL:=dU x
 have hbS:=fh e.subs (roadOf x)
 have hbH:=gW e.halfs (roadOf x)
 have hf:=Nu (e:=e) (x:=x)
 have hf2:=HK (e:=e) (x:=x)
 have hb:=fun n=> @OZ e x n
 have ha1:=fun i n=> @Lc e x i n
 have ha2:=fun i=> @Ld e x i
 generalize aq e x=R at*
 refine qE func207 ntmps207 results207 fun E hE=>?_
 refine qK (hC) (qI 0 7) ?_
 refine qK (cZ x) [] ?_
 refine qK (hK) (qI 0 7) ?_
 refine qB (fun h1=>?_) fun h1=>?_
 ·refine qK (hL) [] ?_
  refine qB (fun h2=>?_) fun h2=>?_
  ·refine qB (fun h3=>?_) fun h3=>?_
   ·rw [hf (by simp [lj,h1,h2,h3])]
    refine qX ?_
    exact qF (qI 0 7++qI 10 7++qI 18 1)
   have hin:lj e x=true:=by simp [lj,h1,h2,h3]
   refine qX ?_
   refine qK (hH) (qI 3 1) ?_
   refine qK (hS) (qI 0 7) ?_
   rcases hbS with hk|⟨hk0,hk1⟩
   ·rcases hbH with hi|⟨hi0,hi1⟩
    ·rw [hi]
     rw [hk]
     refine qX ?_
     refine qD [0,1,2,3,4,5,6,7,8,9,10,11,12,13,14,15,16,17,18,19,20,21,22,23,24,25,26,27,28,29] ?_
     refine qG ?_
     rw [hf2 hin (BQ hi) (tK hk)]
     refine qD [0,1,2,3,4,5,6,7,8,9,10,11,12,13,14,15,16,17,18,19,20,21,22,23,24,25,26,27,28,29,30,31,32] ?_
     refine qG ?_
     exact qF (qI 0 7++qI 10 7++qI 18 1)
    obtain⟨i,hi⟩:=RR hi0
    have hil:i < e.halfs.length:=zO
    have hcmp:=TagD.cmp x.tag ⟨2,e.peer,e.key,e.halfs[i].theirs,e.halfs[i].mine⟩
    simp only [TagD.cs,go_sem] at hcmp
    rw [hi]
    rw [hk]
    refine qX ?_
    refine qD [0,1,2,3,4,5,6,7,8,9,10,11,12,13,14,15,16,17,18,19,20,21,22,23,24,25,26,27,28,29] ?_
    refine qB (fun h4=>?_) fun h4=>?_
    ·refine aE (fY _ _ _ _) [] ?_
     refine⟨qC,ae 400 ?_⟩
     try simp (disch:=omega) only [go_sem,seval,hcmp]
     refine qB (fun h5=>?_) fun h5=>?_
     ·have hjA:pL e x=true:=by rw [iZ hi hil];simp [h4,h5];try omega
      rw [ha2 _ hin hjA hi hil hk]
      refine qX ?_
      refine qK (jt { e with subs:=e.subs } (fi (roadOf x) e.halfs[i]) (by have:=dw h1;simp;omega)) (qI 10 7) ?_
      refine qK (hD) (qI 13 1) ?_
      refine aH [(0,5),(3,0),(4,0)] [[1,2,3,4,0,5,6,7],[1,2,3,0,4,5,6,7],[1,2,0,3,4,5,6,7],[1,2,3,4,5,0,6,7]] (by kernel_rfl) (qC) (by kernel_rfl) ?_
      simp only [bf]
      refine⟨aa 400 ?_,aa 400 ?_,aa 400 ?_,aa 400 ?_⟩
      all_goals simp (disch:=omega) only [go_sem,seval]
      all_goals
       refine aE (jv (fi (roadOf x) e.halfs[i])) [] ?_
       refine qG ?_
       refine qP (qI 0 7++qI 10 2++qI 22 2++qI 14 3++qI 25 1) ?_
       first|exact⟨⟩|simp [Si,SubD.cs,fi]
     have hjA':pL e x=false:=by rw [iZ hi hil];simp [h5]
     refine qX ?_
     rw [hf2 hin (hjA') (tK hk)]
     refine qD [0,1,2,3,4,5,6,7,8,9,10,11,12,13,14,15,16,17,18,19,20,21,22,23,24,25,26,27,28,29,30,31,32] ?_
     refine qG ?_
     exact qF (qI 0 7++qI 10 7++qI 18 1)
    have hjA':pL e x=false:=by rw [iZ hi hil];simp;omega
    refine qG ?_
    rw [hf2 hin (hjA') (tK hk)]
    refine qD [0,1,2,3,4,5,6,7,8,9,10,11,12,13,14,15,16,17,18,19,20,21,22,23,24,25,26,27,28,29,30,31,32] ?_
    refine qG ?_
    exact qF (qI 0 7++qI 10 7++qI 18 1)
   obtain⟨n,hk⟩:=RR hk0
   have hn:n < e.subs.length:=zO
   have hrd:=wN hk hn
   rcases hbH with hi|⟨hi0,hi1⟩
   ·rw [hi]
    rw [hk]
    refine qX ?_
    refine qD [0,1,2,3,4,5,6,7,8,9,10,11,12,13,14,15,16,17,18,19,20,21,22,23,24,25,26,27,28,29] ?_
    refine qG ?_
    have hcmp2:=TagD.cmp x.tag ⟨2,e.peer,e.key,e.subs[n].theirs,e.subs[n].mine⟩
    simp only [TagD.cs,go_sem] at hcmp2
    have hjA:=BQ hi
    refine qD [0,1,2,3,4,5,6,7,8,9,10,11,12,13,14,15,16,17,18,19,20,21,22,23,24,25,26,27,28,29,30,31,32] ?_
    refine qB (fun h6=>?_) fun h6=>?_
    ·refine aE (fY _ _ _ _) [] ?_
     refine⟨qC,ae 400 ?_⟩
     try simp (disch:=omega) only [go_sem,seval,hcmp2]
     refine qB (fun h7=>?_) fun h7=>?_
     ·rw [hb _ hin hjA (by rw [fA hk hn];simp [h6,h7]) hk hn]
      refine qX ?_
      refine aH [(0,9),(7,0),(8,0)] [(qU [1,8,0,1,9,3]),(qU [1,7,0,1,8,4]),(qU [1,6,0,1,7,5]),(qU [1,9,0,1,10,2])] (by kernel_rfl) (qC) (by kernel_rfl) ?_
      simp only [bf]
      refine⟨aa 400 ?_,aa 400 ?_,aa 400 ?_,aa 400 ?_⟩
      all_goals simp (disch:=omega) only [go_sem,seval]
      all_goals
       refine aE (jv e.subs[n]) [] ?_
       refine qG ?_
       refine qP (qI 0 7++qI 10 7++qI 21 1) ?_
       first|exact⟨⟩|simp [hrd]
     rw [hf2 hin hjA (by rw [fA hk hn];simp [h6,h7])]
     refine qX ?_
     exact qF (qI 0 7++qI 10 7++qI 18 1)
    rw [hf2 hin hjA (by rw [fA hk hn];simp [h6])]
    refine qG ?_
    exact qF (qI 0 7++qI 10 7++qI 18 1)
   obtain⟨i,hi⟩:=RR hi0
   have hil:i < e.halfs.length:=zO
   have hcmp:=TagD.cmp x.tag ⟨2,e.peer,e.key,e.halfs[i].theirs,e.halfs[i].mine⟩
   simp only [TagD.cs,go_sem] at hcmp
   rw [hi]
   rw [hk]
   refine qX ?_
   refine qD [0,1,2,3,4,5,6,7,8,9,10,11,12,13,14,15,16,17,18,19,20,21,22,23,24,25,26,27,28,29] ?_
   refine qB (fun h4=>?_) fun h4=>?_
   ·refine aE (fY _ _ _ _) [] ?_
    refine⟨qC,ae 400 ?_⟩
    try simp (disch:=omega) only [go_sem,seval,hcmp]
    refine qB (fun h5=>?_) fun h5=>?_
    ·have hjA:pL e x=true:=by rw [iZ hi hil];simp [h4,h5];try omega
     rw [ha1 _ _ hin hjA hi hil hk hn]
     refine qX ?_
     refine qK (jt { e with subs:=e.subs.set n { e.subs[n] with state:=4 } } (fi (roadOf x) e.halfs[i]) (by have:=dw h1;simp;omega)) (qI 10 7) ?_
     refine qK (hD) (qI 13 1) ?_
     refine aH [(0,5),(3,0),(4,0)] [[1,2,3,4,0,5,6,7],[1,2,3,0,4,5,6,7],[1,2,0,3,4,5,6,7],[1,2,3,4,5,0,6,7]] (by kernel_rfl) (qC) (by kernel_rfl) ?_
     simp only [bf]
     refine⟨aa 400 ?_,aa 400 ?_,aa 400 ?_,aa 400 ?_⟩
     all_goals simp (disch:=omega) only [go_sem,seval]
     all_goals
      refine aE (jv (fi (roadOf x) e.halfs[i])) [] ?_
      refine qG ?_
      refine qP (qI 0 7++qI 10 2++qI 22 2++qI 14 3++qI 25 1) ?_
      first|exact⟨⟩|simp [Si,SubD.cs,fi]
    have hjA':pL e x=false:=by rw [iZ hi hil];simp [h5]
    refine qX ?_
    have hcmp2:=TagD.cmp x.tag ⟨2,e.peer,e.key,e.subs[n].theirs,e.subs[n].mine⟩
    simp only [TagD.cs,go_sem] at hcmp2
    have hjA:=hjA'
    refine qD [0,1,2,3,4,5,6,7,8,9,10,11,12,13,14,15,16,17,18,19,20,21,22,23,24,25,26,27,28,29,30,31,32] ?_
    refine qB (fun h6=>?_) fun h6=>?_
    ·refine aE (fY _ _ _ _) [] ?_
     refine⟨qC,ae 400 ?_⟩
     try simp (disch:=omega) only [go_sem,seval,hcmp2]
     refine qB (fun h7=>?_) fun h7=>?_
     ·rw [hb _ hin hjA (by rw [fA hk hn];simp [h6,h7]) hk hn]
      refine qX ?_
      refine aH [(0,9),(7,0),(8,0)] [(qU [1,8,0,1,9,3]),(qU [1,7,0,1,8,4]),(qU [1,6,0,1,7,5]),(qU [1,9,0,1,10,2])] (by kernel_rfl) (qC) (by kernel_rfl) ?_
      simp only [bf]
      refine⟨aa 400 ?_,aa 400 ?_,aa 400 ?_,aa 400 ?_⟩
      all_goals simp (disch:=omega) only [go_sem,seval]
      all_goals
       refine aE (jv e.subs[n]) [] ?_
       refine qG ?_
       refine qP (qI 0 7++qI 10 7++qI 21 1) ?_
       first|exact⟨⟩|simp [hrd]
     rw [hf2 hin hjA (by rw [fA hk hn];simp [h6,h7])]
     refine qX ?_
     exact qF (qI 0 7++qI 10 7++qI 18 1)
    rw [hf2 hin hjA (by rw [fA hk hn];simp [h6])]
    refine qG ?_
    exact qF (qI 0 7++qI 10 7++qI 18 1)
   have hjA':pL e x=false:=by rw [iZ hi hil];simp;omega
   refine qG ?_
   have hcmp2:=TagD.cmp x.tag ⟨2,e.peer,e.key,e.subs[n].theirs,e.subs[n].mine⟩
   simp only [TagD.cs,go_sem] at hcmp2
   have hjA:=hjA'
   refine qD [0,1,2,3,4,5,6,7,8,9,10,11,12,13,14,15,16,17,18,19,20,21,22,23,24,25,26,27,28,29,30,31,32] ?_
   refine qB (fun h6=>?_) fun h6=>?_
   ·refine aE (fY _ _ _ _) [] ?_
    refine⟨qC,ae 400 ?_⟩
    try simp (disch:=omega) only [go_sem,seval,hcmp2]
    refine qB (fun h7=>?_) fun h7=>?_
    ·rw [hb _ hin hjA (by rw [fA hk hn];simp [h6,h7]) hk hn]
     refine qX ?_
     refine aH [(0,9),(7,0),(8,0)] [(qU [1,8,0,1,9,3]),(qU [1,7,0,1,8,4]),(qU [1,6,0,1,7,5]),(qU [1,9,0,1,10,2])] (by kernel_rfl) (qC) (by kernel_rfl) ?_
     simp only [bf]
     refine⟨aa 400 ?_,aa 400 ?_,aa 400 ?_,aa 400 ?_⟩
     all_goals simp (disch:=omega) only [go_sem,seval]
     all_goals
      refine aE (jv e.subs[n]) [] ?_
      refine qG ?_
      refine qP (qI 0 7++qI 10 7++qI 21 1) ?_
      first|exact⟨⟩|simp [hrd]
    rw [hf2 hin hjA (by rw [fA hk hn];simp [h6,h7])]
    refine qX ?_
    exact qF (qI 0 7++qI 10 7++qI 18 1)
   rw [hf2 hin hjA (by rw [fA hk hn];simp [h6])]
   refine qG ?_
   exact qF (qI 0 7++qI 10 7++qI 18 1)
  rw [hf (by simp [lj,h2])]
  refine qX ?_
  exact qF (qI 0 7++qI 10 7++qI 18 1)
 rw [hf (by simp [lj,h1])]
 refine qX ?_
 exact qF (qI 0 7++qI 10 7++qI 18 1)
theorem uQ (a b:PieceD) (ha:0<=a.pos/\a.pos<=4000000000) (hb:0<=b.pos/\b.pos<=4000000000) (la:a.text.length<=1048576) (lb:b.text.length<=1048576)
  (t1:¬ a.pos+(a.text.length:Int) < b.pos) (t2:¬ b.pos+(b.text.length:Int) < a.pos):aP 243 [.ag a.cs,.ag b.cs] [] (.ag (fk a b).cs) []:=by
 by_cases h:b.pos < a.pos
 ·obtain⟨n,hn⟩:=RR (show 0<=a.pos - b.pos by omega)
  rw [w_ hn zO]
  have hp:a.pos=b.pos+(n:Int):=zO
  refine qE func243 ntmps243 results243 fun E hE=>?_
  have hlt:(b.text.take n).length=n:=by simp;omega
  have hmin:(if a.pos - b.pos < (b.text.length:Int) then a.pos - b.pos else (b.text.length:Int))=(n:Int):=by split<;>omega
  refine qD [0,1,2,3,4,5,6,7,8,9,10,11,12,13,14,15,16,17,18] ?_
  try simp (disch:=omega) only [go_sem,seval,hmin]
  refine⟨qC,ae 400 ?_⟩
  try simp (disch:=omega) only [go_sem,seval,hmin]
  refine qB (fun h3=>?_) fun h3=>?_
  ·have he:(b.pos+(((b.text.take n).length:Int)+(a.text.length:Int)) - b.pos).toNat=n+a.text.length:=zO
   have hd:(b.text.drop (n+a.text.length)).length<=b.text.length:=by simp
   refine qD [0,1,2,3,4,5,6,7,8,9,10,11] ?_
   try simp (disch:=omega) only [go_sem,seval,he]
   refine⟨by (try simp (disch:=omega) only [go_sem,RU,seval,he])<;>omega,ae 400 ?_⟩
   try simp (disch:=omega) only [go_sem,seval,he]
   exact qF []
  refine qJ [] ?_
  rw [R4 zO]
  simp
 obtain⟨n,hn⟩:=RR (show 0<=b.pos - a.pos by omega)
 rw [DP hn]
 have hp:b.pos=a.pos+(n:Int):=zO
 refine qE func243 ntmps243 results243 fun E hE=>?_
 refine qB (fun h3=>?_) fun h3=>?_
 ·have he:(a.pos+(a.text.length:Int) - b.pos).toNat=a.text.length - n:=zO
  have hd:(b.text.drop (a.text.length - n)).length<=b.text.length:=by simp
  refine qD [0,1,2,3,4,5,6,7,8,9,10,11] ?_
  try simp (disch:=omega) only [go_sem,seval,he]
  refine⟨by (try simp (disch:=omega) only [go_sem,RU,seval,he])<;>omega,ae 400 ?_⟩
  try simp (disch:=omega) only [go_sem,seval,he]
  exact qF []
 refine qJ [] ?_
 rw [R4 zO]
 simp
theorem sn (a b:PieceD) (ha:0<=a.pos/\a.pos<=4000000000) (hb:0<=b.pos/\b.pos<=4000000000) (la:a.text.length<=1048576) (lb:b.text.length<=1048576)
  (t1:¬ a.pos+(a.text.length:Int) < b.pos) (t2:¬ b.pos+(b.text.length:Int) < a.pos):aP 245 [.ag a.cs,.ag b.cs] [] (.ag (fk a b).cs) []:=by
 by_cases h:b.pos < a.pos
 ·obtain⟨n,hn⟩:=RR (show 0<=a.pos - b.pos by omega)
  rw [w_ hn zO]
  have hp:a.pos=b.pos+(n:Int):=zO
  have hlt:(b.text.take n).length=n:=by simp;omega
  refine qE func245 ntmps245 results245 fun E hE=>?_
  try simp (disch:=omega) only [go_sem,seval,hn]
  refine qB (fun h3=>?_) fun h3=>?_
  ·refine qX ?_
   refine qB (fun h4=>?_) fun h4=>?_
   ·have he:((n:Int)+(a.text.length:Int)).toNat=n+a.text.length:=zO
    have hd:(b.text.drop (n+a.text.length)).length<=b.text.length:=by simp
    try simp (disch:=omega) only [go_sem,seval,he]
    refine aK [] (by (try simp (disch:=omega) only [go_sem,RU,seval,he])<;>omega) _ (by simp only [go_sem];rfl) zF zF ?_
    simp (disch:=omega) only [go_sem,seval]
   refine qX ?_
   refine qJ [] ?_
   rw [R4 zO]
   simp
  have h5:n=b.text.length:=zO
  refine qX ?_
  refine qJ [] ?_
  rw [R4 zO,RV zO]
  simp
 obtain⟨n,hn⟩:=RR (show 0<=b.pos - a.pos by omega)
 rw [DP hn]
 have hp:b.pos=a.pos+(n:Int):=zO
 refine qE func245 ntmps245 results245 fun E hE=>?_
 try simp (disch:=omega) only [go_sem,seval,hn]
 refine qB (fun h3=>?_) fun h3=>?_
 ·refine qJ [] ?_
  rw [R4 zO]
  simp
 have he:((b.text.length:Int) - ((n:Int)+(b.text.length:Int) - (a.text.length:Int))).toNat=a.text.length - n:=zO
 have hd:(b.text.drop (a.text.length - n)).length<=b.text.length:=by simp
 refine qD [0,1,2,3,4,5,6,7,8,9,10,11,12,13,14] ?_
 try simp (disch:=omega) only [go_sem,seval,he]
 refine⟨by (try simp (disch:=omega) only [go_sem,RU,seval,he])<;>omega,ae 400 ?_⟩
 try simp (disch:=omega) only [go_sem,seval,he]
 exact qF []
theorem zh (p:PiecesD) (n:Int) (t:List UInt8) (hs:SmallP p):aP 232 [.ag (p.cs 0),.sc (.int .i64 n),.sc (.st t)] (p.hp false) (.ag ((putPiece p n t).cs 1))
  (p.hp false++(putPiece p n t).hp true):=by
 have hO:=cJ p hs.list
 have hN:=kP p
 have hf:=Qz (p:=p) (n:=n) (t:=t)
 have hold:=FY (p:=p) (n:=n) (t:=t)
 have hcut:=fun k=> @FZ p n t k
 have hnew:=F0 (p:=p) (n:=n) (t:=t)
 have hok:=sh.eq_1 p n t
 generalize putPiece p n t=R at*
 refine qE func232 ntmps232 results232 fun E hE=>?_
 refine qK (hO) (qI 0 1) ?_
 refine qB (fun h1=>?_) fun h1=>?_
 ·refine qK (de [n] zP) (qI 3 1) ?_
  simp only [Sn,Sw,Bool.and_true]
  refine qX ?_
  refine qB (fun h2=>?_) fun h2=>?_
  ·refine qX ?_
   refine qK (aT (t.length:Int) 1 200) [] ?_
   refine qB (fun h3=>?_) fun h3=>?_
   ·rw [hf (by rw [hok];simp [h3])]
    refine qX ?_
    refine qK (ay p hs.list) (qI 0 1) ?_
    exact qF (qI 0 1++qI 4 1)
   have hok1:sh p n t=true:=by rw [hok];simp [h1,h2,h3]
   have hF:=ax h1 hs
   have hn1:=h2
   have hn3:=h3
   simp only [gp,cv,RP,decide_eq_true_eq] at hn1 hn3
   have hr0:=hF.r0
   have hr1:=hF.r1
   have hrl:=hF.list
   have hrr:=hF.ready
   have hnx:=hF.next
   refine qX ?_
   refine qK (hN) (qI 0 1) ?_
   refine qB (fun h4=>?_) fun h4=>?_
   ·obtain⟨m,hm⟩:=RR (show 0<=nextOf p - n by omega)
    by_cases h7:t.length<=m
    ·rw [hold hok1 zO]
     have hmin:(if nextOf p - n < (t.length:Int) then nextOf p - n else (t.length:Int))=(t.length:Int):=by split<;>omega
     have hz:(t.drop t.length == [])=true:=by simp
     try simp (disch:=omega) only [go_sem,seval,hmin,hz]
     refine qX ?_
     refine qK (ay p hs.list) (qI 0 1) ?_
     exact qF (qI 0 1++qI 5 1)
    rw [hcut m hok1 hm zO zO]
    have hmin:(if nextOf p - n < (t.length:Int) then nextOf p - n else (t.length:Int))=(m:Int):=by split<;>omega
    have hz:(t.drop m == [])=false:=by simp;omega
    have hI0:PpI 0 ⟨⟨nextOf p,t.drop m⟩,false,[]⟩:=nL zO zO zS
    try simp (disch:=omega) only [go_sem,seval,hmin,hz]
    obtain⟨G,hG⟩:∃ G,jH ⟨⟨nextOf p,t.drop m⟩,false,[]⟩ p.list=G:=⟨_,rfl⟩
    refine gI 1 hE (fun s (x:Nat×PpS)=>s.at (qU [0,3,12,45,60,47]) [(59,.sc (.int .i64 (x.1:Nat))),(10,.sc (.bo x.2.laid))] ([some ⟨p.list.map PieceD.cs,2,117,false,true⟩,some ⟨[p.cs 0],3,35,true,false⟩,some ⟨[[.int .i64 0,.st [],.nil]],3,35,true,false⟩,some ⟨[[.int .i64 n]],1,3,true,true⟩,some ⟨[[.int .i64 p.read,.st p.ready,.sl 6 0 x.2.acc.length]],3,35,true,false⟩,some ⟨[x.2.own.cs],2,117,true,false⟩,some ⟨x.2.acc.map PieceD.cs,2,117,true,true⟩])) (fun (x:Nat×PpS)=>x.1<=p.list.length/\PpI x.1 x.2/\jH x.2 (p.list.drop x.1)=G) (fun (x:Nat×PpS)=>p.list.length - x.1) (0,⟨⟨nextOf p,t.drop m⟩,false,[]⟩) (qI 0 6++qO 1) (⟨RQ _,hI0,hG⟩) fun x hx N hN=>?_
    obtain⟨k,g⟩:=x
    obtain⟨hk1,hI,hgo⟩:=hx
    dsimp only at hk1 hI hgo
    have hIo:=hI.own
    have hIp:=hI.pos
    have hIa:=hI.acc
    have hac:g.acc.length<=100:=by split at hIa<;>omega
    refine qR ?_
    refine qB (fun h=>?_) fun h=>?_
    ·have hm:=hF.texts p.list[k] (R7 h)
     obtain⟨hm1,hm2,hm3⟩:=hm
     rw [oL h] at hgo
     refine qX ?_
     refine qB (fun h2=>?_) fun h2=>?_
     ·rw [r_ zO] at hgo
      refine qX ?_
      refine uC hN (k+1,⟨g.own,g.laid,g.acc++[p.list[k]]⟩) (qI 0 6++qI 9 1) (by (try dsimp only);exact⟨zO,Aq hI hm1,hgo⟩) ?_
      first|exact⟨⟩|simp [PieceD.cs]
     refine qX ?_
     refine qB (fun h3=>?_) fun h3=>?_
     ·rw [lL zO zO] at hgo
      cases hgl:g.laid with
      |true=>
       rw [hgl,if_pos rfl] at hgo
       try simp (disch:=omega) only [go_sem,seval,hgl]
       refine uC hN (k+1,⟨g.own,true,g.acc++[p.list[k]]⟩) (qI 0 6++qI 9 1) (by (try dsimp only);exact⟨zO,xa hI hgl hm1,hgo⟩) ?_
       first|exact⟨⟩|simp [PieceD.cs]
      |false=>
       rw [hgl,if_neg zP] at hgo
       try simp (disch:=omega) only [go_sem,seval,hgl]
       refine uC hN (k+1,⟨g.own,true,g.acc++[g.own]++[p.list[k]]⟩) (qI 0 6++qI 11 1) (by (try dsimp only);exact⟨zO,xb hI zO hgl hm1,hgo⟩) ?_
       first|exact⟨⟩|simp [PieceD.cs]
     rw [nK zO zO] at hgo
     refine qX ?_
     refine qK (uQ p.list[k] g.own zO zO zO zO zO zO) [] ?_
     refine uC hN (k+1,⟨fk p.list[k] g.own,g.laid,g.acc⟩) (qI 0 7) (by (try dsimp only);exact⟨zO,DQ hI hm1 hm2 hm3,hgo⟩) ?_
     first|exact⟨⟩|simp [PieceD.cs]
    have hkl:k=p.list.length:=zO
    rw [sf zO] at hgo
    subst hgo
    obtain⟨y,r,hyr,hyt,hyl⟩:=mu hI zO
    rw [sj hG hyr]
    have hyr':=hyr
    rw [jM] at hyr'
    cases hgl:g.laid with
    |true=>
     rw [hgl,if_pos rfl] at hyr'
     rw [hyr']
     try simp (disch:=omega) only [go_sem,seval,hgl,RY]
     refine qX ?_
     refine qB (fun h5=>?_) fun h5=>?_
     ·refine qD [0,1,2,3,4,5,6,7,8,9] ?_
      refine⟨qC,ae 400 ?_⟩
      have hE1:= @jT p y r h5
      refine qX ?_
      refine qK (cJ ⟨p.read,p.ready++y.text,r⟩ (by simp at hyl⊢;omega)) [some (6,some 1)] ?_
      refine qB (fun h6=>?_) fun h6=>?_
      ·rw [eV (by rw [hE1];exact h6)]
       refine qX ?_
       refine qK (ay p hs.list) (qI 0 1) ?_
       exact qF (qI 0 1++qI 7 1)
      rw [eL (by rw [hE1];exact h6),hE1]
      refine qX ?_
      refine qK (ay ⟨p.read,p.ready++y.text,r⟩ (by simp at hyl⊢;omega)) [some (6,some 1)] ?_
      refine qP (qI 0 1++qI 7 1) ?_
      first|exact⟨⟩|simp
     have hE1:= @kR p y r h5
     refine qX ?_
     refine qK (cJ ⟨p.read,p.ready,y::r⟩ (by simp at hyl⊢;omega)) (qI 6 1) ?_
     refine qB (fun h6=>?_) fun h6=>?_
     ·rw [eV (by rw [hE1];exact h6)]
      refine qX ?_
      refine qK (ay p hs.list) (qI 0 1) ?_
      exact qF (qI 0 1++qI 7 1)
     rw [eL (by rw [hE1];exact h6),hE1]
     refine qX ?_
     refine qK (ay ⟨p.read,p.ready,y::r⟩ (by simp at hyl⊢;omega)) (qI 6 1) ?_
     refine qP (qI 0 1++qI 7 1) ?_
     first|exact⟨⟩|simp
    |false=>
     rw [hgl,if_neg zP] at hyr'
     have e1:g.acc.map PieceD.cs++[g.own.cs]=PieceD.cs y::r.map PieceD.cs:=by rw [<-RY,<-hyr'];simp
     have e2:g.acc.length+1=r.length+1:=by have:=congrArg List.length hyr';simpa using this
     simp only [PieceD.cs] at e1
     try simp (disch:=omega) only [go_sem,seval,hgl,e1,e2]
     refine qX ?_
     refine qB (fun h5=>?_) fun h5=>?_
     ·refine qD [0,1,2,3,4,5,6,7,8,9] ?_
      refine⟨qC,ae 400 ?_⟩
      have hE1:= @jT p y r h5
      refine qX ?_
      refine qK (cJ ⟨p.read,p.ready++y.text,r⟩ (by simp at hyl⊢;omega)) [some (8,some 1)] ?_
      refine qB (fun h6=>?_) fun h6=>?_
      ·rw [eV (by rw [hE1];exact h6)]
       refine qX ?_
       refine qK (ay p hs.list) (qI 0 1) ?_
       exact qF (qI 0 1++qI 9 1)
      rw [eL (by rw [hE1];exact h6),hE1]
      refine qX ?_
      refine qK (ay ⟨p.read,p.ready++y.text,r⟩ (by simp at hyl⊢;omega)) [some (8,some 1)] ?_
      refine qP (qI 0 1++qI 9 1) ?_
      first|exact⟨⟩|simp
     have hE1:= @kR p y r h5
     refine qX ?_
     refine qK (cJ ⟨p.read,p.ready,y::r⟩ (by simp at hyl⊢;omega)) (qI 8 1) ?_
     refine qB (fun h6=>?_) fun h6=>?_
     ·rw [eV (by rw [hE1];exact h6)]
      refine qX ?_
      refine qK (ay p hs.list) (qI 0 1) ?_
      exact qF (qI 0 1++qI 9 1)
     rw [eL (by rw [hE1];exact h6),hE1]
     refine qX ?_
     refine qK (ay ⟨p.read,p.ready,y::r⟩ (by simp at hyl⊢;omega)) (qI 8 1) ?_
     refine qP (qI 0 1++qI 9 1) ?_
     first|exact⟨⟩|simp
   rw [hnew hok1 zO]
   have hz:(t == [])=false:=by cases t<;>simp_all
   have hI0:PpI 0 ⟨⟨n,t⟩,false,[]⟩:=nL zO zO zO
   try simp (disch:=omega) only [go_sem,seval,hz]
   obtain⟨G,hG⟩:∃ G,jH ⟨⟨n,t⟩,false,[]⟩ p.list=G:=⟨_,rfl⟩
   refine gI 1 hE (fun s (x:Nat×PpS)=>s.at (qU [0,3,12,45,60,47]) [(59,.sc (.int .i64 (x.1:Nat))),(10,.sc (.bo x.2.laid))] ([some ⟨p.list.map PieceD.cs,2,117,false,true⟩,some ⟨[p.cs 0],3,35,true,false⟩,some ⟨[[.int .i64 0,.st [],.nil]],3,35,true,false⟩,some ⟨[[.int .i64 n]],1,3,true,true⟩,some ⟨[[.int .i64 p.read,.st p.ready,.sl 6 0 x.2.acc.length]],3,35,true,false⟩,some ⟨[x.2.own.cs],2,117,true,false⟩,some ⟨x.2.acc.map PieceD.cs,2,117,true,true⟩])) (fun (x:Nat×PpS)=>x.1<=p.list.length/\PpI x.1 x.2/\jH x.2 (p.list.drop x.1)=G) (fun (x:Nat×PpS)=>p.list.length - x.1) (0,⟨⟨n,t⟩,false,[]⟩) (qI 0 6++qO 1) (⟨RQ _,hI0,hG⟩) fun x hx N hN=>?_
   obtain⟨k,g⟩:=x
   obtain⟨hk1,hI,hgo⟩:=hx
   dsimp only at hk1 hI hgo
   have hIo:=hI.own
   have hIp:=hI.pos
   have hIa:=hI.acc
   have hac:g.acc.length<=100:=by split at hIa<;>omega
   refine qR ?_
   refine qB (fun h=>?_) fun h=>?_
   ·have hm:=hF.texts p.list[k] (R7 h)
    obtain⟨hm1,hm2,hm3⟩:=hm
    rw [oL h] at hgo
    refine qX ?_
    refine qB (fun h2=>?_) fun h2=>?_
    ·rw [r_ zO] at hgo
     refine qX ?_
     refine uC hN (k+1,⟨g.own,g.laid,g.acc++[p.list[k]]⟩) (qI 0 6++qI 9 1) (by (try dsimp only);exact⟨zO,Aq hI hm1,hgo⟩) ?_
     first|exact⟨⟩|simp [PieceD.cs]
    refine qX ?_
    refine qB (fun h3=>?_) fun h3=>?_
    ·rw [lL zO zO] at hgo
     cases hgl:g.laid with
     |true=>
      rw [hgl,if_pos rfl] at hgo
      try simp (disch:=omega) only [go_sem,seval,hgl]
      refine uC hN (k+1,⟨g.own,true,g.acc++[p.list[k]]⟩) (qI 0 6++qI 9 1) (by (try dsimp only);exact⟨zO,xa hI hgl hm1,hgo⟩) ?_
      first|exact⟨⟩|simp [PieceD.cs]
     |false=>
      rw [hgl,if_neg zP] at hgo
      try simp (disch:=omega) only [go_sem,seval,hgl]
      refine uC hN (k+1,⟨g.own,true,g.acc++[g.own]++[p.list[k]]⟩) (qI 0 6++qI 11 1) (by (try dsimp only);exact⟨zO,xb hI zO hgl hm1,hgo⟩) ?_
      first|exact⟨⟩|simp [PieceD.cs]
    rw [nK zO zO] at hgo
    refine qX ?_
    refine qK (uQ p.list[k] g.own zO zO zO zO zO zO) [] ?_
    refine uC hN (k+1,⟨fk p.list[k] g.own,g.laid,g.acc⟩) (qI 0 7) (by (try dsimp only);exact⟨zO,DQ hI hm1 hm2 hm3,hgo⟩) ?_
    first|exact⟨⟩|simp [PieceD.cs]
   have hkl:k=p.list.length:=zO
   rw [sf zO] at hgo
   subst hgo
   obtain⟨y,r,hyr,hyt,hyl⟩:=mu hI zO
   rw [sj hG hyr]
   have hyr':=hyr
   rw [jM] at hyr'
   cases hgl:g.laid with
   |true=>
    rw [hgl,if_pos rfl] at hyr'
    rw [hyr']
    try simp (disch:=omega) only [go_sem,seval,hgl,RY]
    refine qX ?_
    refine qB (fun h5=>?_) fun h5=>?_
    ·refine qD [0,1,2,3,4,5,6,7,8,9] ?_
     refine⟨qC,ae 400 ?_⟩
     have hE1:= @jT p y r h5
     refine qX ?_
     refine qK (cJ ⟨p.read,p.ready++y.text,r⟩ (by simp at hyl⊢;omega)) [some (6,some 1)] ?_
     refine qB (fun h6=>?_) fun h6=>?_
     ·rw [eV (by rw [hE1];exact h6)]
      refine qX ?_
      refine qK (ay p hs.list) (qI 0 1) ?_
      exact qF (qI 0 1++qI 7 1)
     rw [eL (by rw [hE1];exact h6),hE1]
     refine qX ?_
     refine qK (ay ⟨p.read,p.ready++y.text,r⟩ (by simp at hyl⊢;omega)) [some (6,some 1)] ?_
     refine qP (qI 0 1++qI 7 1) ?_
     first|exact⟨⟩|simp
    have hE1:= @kR p y r h5
    refine qX ?_
    refine qK (cJ ⟨p.read,p.ready,y::r⟩ (by simp at hyl⊢;omega)) (qI 6 1) ?_
    refine qB (fun h6=>?_) fun h6=>?_
    ·rw [eV (by rw [hE1];exact h6)]
     refine qX ?_
     refine qK (ay p hs.list) (qI 0 1) ?_
     exact qF (qI 0 1++qI 7 1)
    rw [eL (by rw [hE1];exact h6),hE1]
    refine qX ?_
    refine qK (ay ⟨p.read,p.ready,y::r⟩ (by simp at hyl⊢;omega)) (qI 6 1) ?_
    refine qP (qI 0 1++qI 7 1) ?_
    first|exact⟨⟩|simp
   |false=>
    rw [hgl,if_neg zP] at hyr'
    have e1:g.acc.map PieceD.cs++[g.own.cs]=PieceD.cs y::r.map PieceD.cs:=by rw [<-RY,<-hyr'];simp
    have e2:g.acc.length+1=r.length+1:=by have:=congrArg List.length hyr';simpa using this
    simp only [PieceD.cs] at e1
    try simp (disch:=omega) only [go_sem,seval,hgl,e1,e2]
    refine qX ?_
    refine qB (fun h5=>?_) fun h5=>?_
    ·refine qD [0,1,2,3,4,5,6,7,8,9] ?_
     refine⟨qC,ae 400 ?_⟩
     have hE1:= @jT p y r h5
     refine qX ?_
     refine qK (cJ ⟨p.read,p.ready++y.text,r⟩ (by simp at hyl⊢;omega)) [some (8,some 1)] ?_
     refine qB (fun h6=>?_) fun h6=>?_
     ·rw [eV (by rw [hE1];exact h6)]
      refine qX ?_
      refine qK (ay p hs.list) (qI 0 1) ?_
      exact qF (qI 0 1++qI 9 1)
     rw [eL (by rw [hE1];exact h6),hE1]
     refine qX ?_
     refine qK (ay ⟨p.read,p.ready++y.text,r⟩ (by simp at hyl⊢;omega)) [some (8,some 1)] ?_
     refine qP (qI 0 1++qI 9 1) ?_
     first|exact⟨⟩|simp
    have hE1:= @kR p y r h5
    refine qX ?_
    refine qK (cJ ⟨p.read,p.ready,y::r⟩ (by simp at hyl⊢;omega)) (qI 8 1) ?_
    refine qB (fun h6=>?_) fun h6=>?_
    ·rw [eV (by rw [hE1];exact h6)]
     refine qX ?_
     refine qK (ay p hs.list) (qI 0 1) ?_
     exact qF (qI 0 1++qI 9 1)
    rw [eL (by rw [hE1];exact h6),hE1]
    refine qX ?_
    refine qK (ay ⟨p.read,p.ready,y::r⟩ (by simp at hyl⊢;omega)) (qI 8 1) ?_
    refine qP (qI 0 1++qI 9 1) ?_
    first|exact⟨⟩|simp
  rw [hf (by rw [hok];simp [h2])]
  refine qX ?_
  refine qK (ay p hs.list) (qI 0 1) ?_
  exact qF (qI 0 1++qI 4 1)
 rw [hf (by rw [hok];simp [h1])]
 refine qX ?_
 refine qK (ay p hs.list) (qI 0 1) ?_
 exact qF (qI 0 1++qI 3 1)
theorem zi (p:PiecesD) (n:Int) (t:List UInt8) (hs:SmallP p):aP 240 [.ag (p.cs 0),.sc (.int .i64 n),.sc (.st t)] (p.hp false) (.ag ((putPiece p n t).cs 1))
  (p.hp false++(putPiece p n t).hp false):=by
 have hO:=cK p hs.list
 have hN:=e8 p
 have hf:=Qz (p:=p) (n:=n) (t:=t)
 have hold:=FY (p:=p) (n:=n) (t:=t)
 have hcut:=fun k=> @FZ p n t k
 have hnew:=F0 (p:=p) (n:=n) (t:=t)
 have hok:=sh.eq_1 p n t
 generalize putPiece p n t=R at*
 refine IS func240 (by kernel_rfl) rfl fun E hE=>ae 400 ?_
 simp (disch:=omega) only [ntmps240,results240,go_sem,seval]
 refine qK (mm p hs.list) (qI 0 1) ?_
 refine qK (hO) (qI 0 1) ?_
 refine qB (fun h1=>?_) fun h1=>?_
 ·refine qK (aB n 0 1000000000) [] ?_
  rw [BI]
  refine qX ?_
  refine qB (fun h2=>?_) fun h2=>?_
  ·refine qX ?_
   refine qK (aB (t.length:Int) 1 200) [] ?_
   refine qB (fun h3=>?_) fun h3=>?_
   ·rw [hf (by rw [hok];simp [h3])]
    refine qX ?_
    refine cX (qI 0 1++qI 3 1) (qC) _ (by simp only [go_sem];rfl) zF zF ?_
    simp (disch:=omega) only [go_sem,seval]
   have hok1:sh p n t=true:=by rw [hok];simp [h1,h2,h3]
   have hF:=ax h1 hs
   have hn1:=h2
   have hn3:=h3
   simp only [gp,cv,RP,decide_eq_true_eq] at hn1 hn3
   have hr0:=hF.r0
   have hr1:=hF.r1
   have hrl:=hF.list
   have hrr:=hF.ready
   have hnx:=hF.next
   refine qX ?_
   refine qK (hN) (qI 0 1) ?_
   refine qB (fun h4=>?_) fun h4=>?_
   ·rw [hold hok1 h4]
    refine qX ?_
    refine cX (qI 0 1++qI 3 1) (qC) _ (by simp only [go_sem];rfl) zF zF ?_
    simp (disch:=omega) only [go_sem,seval]
   refine qX ?_
   refine qB (fun h7=>?_) fun h7=>?_
   ·obtain⟨m,hm⟩:=RR (show 0<=nextOf p - n by omega)
    rw [hcut m hok1 hm zO zO]
    have hnn:nextOf p=n+(m:Int):=zO
    have hI0:PpI 0 ⟨⟨nextOf p,t.drop m⟩,false,[]⟩:=nL zO zO zS
    have hadd:n+(m:Int)=nextOf p:=zO
    try simp (disch:=omega) only [go_sem,seval,hm,hadd]
    obtain⟨G,hG⟩:∃ G,jH ⟨⟨nextOf p,t.drop m⟩,false,[]⟩ p.list=G:=⟨_,rfl⟩
    refine gI 1 hE (fun s (x:Nat×PpS)=>s.at (qU [0,3,9,1,13,100]) [(12,.sc (.int .i64 (x.1:Nat))),(11,.sc (.bo x.2.laid))] ([some ⟨p.list.map PieceD.cs,2,117,false,true⟩,some ⟨[p.cs 0],3,35,true,false⟩,some ⟨[[.int .i64 0,.st [],.nil]],3,35,true,false⟩,some ⟨p.list.map PieceD.cs,2,117,true,true⟩,some ⟨[p.cs 3],3,35,true,false⟩,some ⟨[x.2.own.cs],2,117,true,false⟩,some ⟨x.2.acc.map PieceD.cs,2,117,true,true⟩,some ⟨[[.int .i64 p.read,.st p.ready,.sl 6 0 x.2.acc.length]],3,35,true,false⟩])) (fun (x:Nat×PpS)=>x.1<=p.list.length/\PpI x.1 x.2/\jH x.2 (p.list.drop x.1)=G) (fun (x:Nat×PpS)=>p.list.length - x.1) (0,⟨⟨nextOf p,t.drop m⟩,false,[]⟩) (qI 0 8) (⟨RQ _,hI0,hG⟩) fun x hx N hN=>?_
    obtain⟨k,g⟩:=x
    obtain⟨hk1,hI,hgo⟩:=hx
    dsimp only at hk1 hI hgo
    have hIo:=hI.own
    have hIp:=hI.pos
    have hIa:=hI.acc
    have hac:g.acc.length<=100:=by split at hIa<;>omega
    refine qR ?_
    refine qB (fun h=>?_) fun h=>?_
    ·have hm:=hF.texts p.list[k] (R7 h)
     obtain⟨hm1,hm2,hm3⟩:=hm
     rw [oL h] at hgo
     refine qX ?_
     refine qB (fun h2=>?_) fun h2=>?_
     ·rw [r_ zO] at hgo
      refine qX ?_
      refine uC hN (k+1,⟨g.own,g.laid,g.acc++[p.list[k]]⟩) (qI 0 6++qI 10 1++qI 7 1) (by (try dsimp only);exact⟨zO,Aq hI hm1,hgo⟩) ?_
      first|exact⟨⟩|simp [PieceD.cs]
     refine qX ?_
     refine qB (fun h3=>?_) fun h3=>?_
     ·rw [lL zO zO] at hgo
      cases hgl:g.laid with
      |true=>
       rw [hgl,if_pos rfl] at hgo
       try simp (disch:=omega) only [go_sem,seval,hgl]
       refine uC hN (k+1,⟨g.own,true,g.acc++[p.list[k]]⟩) (qI 0 6++qI 10 1++qI 7 1) (by (try dsimp only);exact⟨zO,xa hI hgl hm1,hgo⟩) ?_
       first|exact⟨⟩|simp [PieceD.cs]
      |false=>
       rw [hgl,if_neg zP] at hgo
       try simp (disch:=omega) only [go_sem,seval,hgl]
       refine uC hN (k+1,⟨g.own,true,g.acc++[g.own]++[p.list[k]]⟩) (qI 0 6++qI 12 1++qI 7 1) (by (try dsimp only);exact⟨zO,xb hI zO hgl hm1,hgo⟩) ?_
       first|exact⟨⟩|simp [PieceD.cs]
     rw [nK zO zO] at hgo
     refine qX ?_
     refine qK (sn p.list[k] g.own zO zO zO zO zO zO) [] ?_
     refine uC hN (k+1,⟨fk p.list[k] g.own,g.laid,g.acc⟩) (qI 0 8) (by (try dsimp only);exact⟨zO,DQ hI hm1 hm2 hm3,hgo⟩) ?_
     first|exact⟨⟩|simp [PieceD.cs]
    have hkl:k=p.list.length:=zO
    rw [sf zO] at hgo
    subst hgo
    obtain⟨y,r,hyr,hyt,hyl⟩:=mu hI zO
    rw [sj hG hyr]
    have hyr':=hyr
    rw [jM] at hyr'
    cases hgl:g.laid with
    |true=>
     rw [hgl,if_pos rfl] at hyr'
     rw [hyr']
     try simp (disch:=omega) only [go_sem,seval,hgl,RY]
     refine qD [0,1,2,3,4,5,6,7] ?_
     refine aE (e8 ⟨p.read,p.ready,y::r⟩) (qI 6 1) ?_
     refine⟨qC,ae 400 ?_⟩
     rw [show nextOf ⟨p.read,p.ready,y::r⟩=nextOf p from rfl]
     refine qX ?_
     refine qB (fun h5=>?_) fun h5=>?_
     ·refine qD [0,1,2,3,4,5,6,7,8,9] ?_
      refine⟨qC,ae 400 ?_⟩
      have hE1:= @jT p y r h5
      refine qX ?_
      refine qK (cK ⟨p.read,p.ready++y.text,r⟩ (by simp at hyl⊢;omega)) [some (6,some 1)] ?_
      refine qB (fun h6=>?_) fun h6=>?_
      ·rw [eV (by rw [hE1];exact h6)]
       refine qX ?_
       refine cX (qI 0 1++qI 3 1) (qC) _ (by simp only [go_sem];rfl) zF zF ?_
       simp (disch:=omega) only [go_sem,seval]
      rw [eL (by rw [hE1];exact h6),hE1]
      refine qX ?_
      refine cX [some (0,none),some (6,some 1)] (qC) _ (by simp only [go_sem];rfl) zF zF ?_
      simp (disch:=omega) only [go_sem,seval]
      try simp
     have hE1:= @kR p y r h5
     refine qX ?_
     refine qK (cK ⟨p.read,p.ready,y::r⟩ (by simp at hyl⊢;omega)) (qI 6 1) ?_
     refine qB (fun h6=>?_) fun h6=>?_
     ·rw [eV (by rw [hE1];exact h6)]
      refine qX ?_
      refine cX (qI 0 1++qI 3 1) (qC) _ (by simp only [go_sem];rfl) zF zF ?_
      simp (disch:=omega) only [go_sem,seval]
     rw [eL (by rw [hE1];exact h6),hE1]
     refine qX ?_
     refine cX (qI 0 1++qI 6 1) (qC) _ (by simp only [go_sem];rfl) zF zF ?_
     simp (disch:=omega) only [go_sem,seval]
     try simp
    |false=>
     rw [hgl,if_neg zP] at hyr'
     have e1:g.acc.map PieceD.cs++[g.own.cs]=PieceD.cs y::r.map PieceD.cs:=by rw [<-RY,<-hyr'];simp
     have e2:g.acc.length+1=r.length+1:=by have:=congrArg List.length hyr';simpa using this
     simp only [PieceD.cs] at e1
     try simp (disch:=omega) only [go_sem,seval,hgl,e1,e2]
     refine qD [0,1,2,3,4,5,6,7] ?_
     refine aE (e8 ⟨p.read,p.ready,y::r⟩) (qI 9 1) ?_
     refine⟨qC,ae 400 ?_⟩
     rw [show nextOf ⟨p.read,p.ready,y::r⟩=nextOf p from rfl]
     refine qX ?_
     refine qB (fun h5=>?_) fun h5=>?_
     ·refine qD [0,1,2,3,4,5,6,7,8,9] ?_
      refine⟨qC,ae 400 ?_⟩
      have hE1:= @jT p y r h5
      refine qX ?_
      refine qK (cK ⟨p.read,p.ready++y.text,r⟩ (by simp at hyl⊢;omega)) [some (9,some 1)] ?_
      refine qB (fun h6=>?_) fun h6=>?_
      ·rw [eV (by rw [hE1];exact h6)]
       refine qX ?_
       refine cX (qI 0 1++qI 3 1) (qC) _ (by simp only [go_sem];rfl) zF zF ?_
       simp (disch:=omega) only [go_sem,seval]
      rw [eL (by rw [hE1];exact h6),hE1]
      refine qX ?_
      refine cX [some (0,none),some (9,some 1)] (qC) _ (by simp only [go_sem];rfl) zF zF ?_
      simp (disch:=omega) only [go_sem,seval]
      try simp
     have hE1:= @kR p y r h5
     refine qX ?_
     refine qK (cK ⟨p.read,p.ready,y::r⟩ (by simp at hyl⊢;omega)) (qI 9 1) ?_
     refine qB (fun h6=>?_) fun h6=>?_
     ·rw [eV (by rw [hE1];exact h6)]
      refine qX ?_
      refine cX (qI 0 1++qI 3 1) (qC) _ (by simp only [go_sem];rfl) zF zF ?_
      simp (disch:=omega) only [go_sem,seval]
     rw [eL (by rw [hE1];exact h6),hE1]
     refine qX ?_
     refine cX (qI 0 1++qI 9 1) (qC) _ (by simp only [go_sem];rfl) zF zF ?_
     simp (disch:=omega) only [go_sem,seval]
     try simp
   rw [hnew hok1 zO]
   have hI0:PpI 0 ⟨⟨n,t⟩,false,[]⟩:=nL zO zO zO
   refine qX ?_
   obtain⟨G,hG⟩:∃ G,jH ⟨⟨n,t⟩,false,[]⟩ p.list=G:=⟨_,rfl⟩
   refine gI 1 hE (fun s (x:Nat×PpS)=>s.at (qU [0,3,9,1,13,100]) [(12,.sc (.int .i64 (x.1:Nat))),(11,.sc (.bo x.2.laid))] ([some ⟨p.list.map PieceD.cs,2,117,false,true⟩,some ⟨[p.cs 0],3,35,true,false⟩,some ⟨[[.int .i64 0,.st [],.nil]],3,35,true,false⟩,some ⟨p.list.map PieceD.cs,2,117,true,true⟩,some ⟨[p.cs 3],3,35,true,false⟩,some ⟨[x.2.own.cs],2,117,true,false⟩,some ⟨x.2.acc.map PieceD.cs,2,117,true,true⟩,some ⟨[[.int .i64 p.read,.st p.ready,.sl 6 0 x.2.acc.length]],3,35,true,false⟩])) (fun (x:Nat×PpS)=>x.1<=p.list.length/\PpI x.1 x.2/\jH x.2 (p.list.drop x.1)=G) (fun (x:Nat×PpS)=>p.list.length - x.1) (0,⟨⟨n,t⟩,false,[]⟩) (qI 0 8) (⟨RQ _,hI0,hG⟩) fun x hx N hN=>?_
   obtain⟨k,g⟩:=x
   obtain⟨hk1,hI,hgo⟩:=hx
   dsimp only at hk1 hI hgo
   have hIo:=hI.own
   have hIp:=hI.pos
   have hIa:=hI.acc
   have hac:g.acc.length<=100:=by split at hIa<;>omega
   refine qR ?_
   refine qB (fun h=>?_) fun h=>?_
   ·have hm:=hF.texts p.list[k] (R7 h)
    obtain⟨hm1,hm2,hm3⟩:=hm
    rw [oL h] at hgo
    refine qX ?_
    refine qB (fun h2=>?_) fun h2=>?_
    ·rw [r_ zO] at hgo
     refine qX ?_
     refine uC hN (k+1,⟨g.own,g.laid,g.acc++[p.list[k]]⟩) (qI 0 6++qI 10 1++qI 7 1) (by (try dsimp only);exact⟨zO,Aq hI hm1,hgo⟩) ?_
     first|exact⟨⟩|simp [PieceD.cs]
    refine qX ?_
    refine qB (fun h3=>?_) fun h3=>?_
    ·rw [lL zO zO] at hgo
     cases hgl:g.laid with
     |true=>
      rw [hgl,if_pos rfl] at hgo
      try simp (disch:=omega) only [go_sem,seval,hgl]
      refine uC hN (k+1,⟨g.own,true,g.acc++[p.list[k]]⟩) (qI 0 6++qI 10 1++qI 7 1) (by (try dsimp only);exact⟨zO,xa hI hgl hm1,hgo⟩) ?_
      first|exact⟨⟩|simp [PieceD.cs]
     |false=>
      rw [hgl,if_neg zP] at hgo
      try simp (disch:=omega) only [go_sem,seval,hgl]
      refine uC hN (k+1,⟨g.own,true,g.acc++[g.own]++[p.list[k]]⟩) (qI 0 6++qI 12 1++qI 7 1) (by (try dsimp only);exact⟨zO,xb hI zO hgl hm1,hgo⟩) ?_
      first|exact⟨⟩|simp [PieceD.cs]
    rw [nK zO zO] at hgo
    refine qX ?_
    refine qK (sn p.list[k] g.own zO zO zO zO zO zO) [] ?_
    refine uC hN (k+1,⟨fk p.list[k] g.own,g.laid,g.acc⟩) (qI 0 8) (by (try dsimp only);exact⟨zO,DQ hI hm1 hm2 hm3,hgo⟩) ?_
    first|exact⟨⟩|simp [PieceD.cs]
   have hkl:k=p.list.length:=zO
   rw [sf zO] at hgo
   subst hgo
   obtain⟨y,r,hyr,hyt,hyl⟩:=mu hI zO
   rw [sj hG hyr]
   have hyr':=hyr
   rw [jM] at hyr'
   cases hgl:g.laid with
   |true=>
    rw [hgl,if_pos rfl] at hyr'
    rw [hyr']
    try simp (disch:=omega) only [go_sem,seval,hgl,RY]
    refine qD [0,1,2,3,4,5,6,7] ?_
    refine aE (e8 ⟨p.read,p.ready,y::r⟩) (qI 6 1) ?_
    refine⟨qC,ae 400 ?_⟩
    rw [show nextOf ⟨p.read,p.ready,y::r⟩=nextOf p from rfl]
    refine qX ?_
    refine qB (fun h5=>?_) fun h5=>?_
    ·refine qD [0,1,2,3,4,5,6,7,8,9] ?_
     refine⟨qC,ae 400 ?_⟩
     have hE1:= @jT p y r h5
     refine qX ?_
     refine qK (cK ⟨p.read,p.ready++y.text,r⟩ (by simp at hyl⊢;omega)) [some (6,some 1)] ?_
     refine qB (fun h6=>?_) fun h6=>?_
     ·rw [eV (by rw [hE1];exact h6)]
      refine qX ?_
      refine cX (qI 0 1++qI 3 1) (qC) _ (by simp only [go_sem];rfl) zF zF ?_
      simp (disch:=omega) only [go_sem,seval]
     rw [eL (by rw [hE1];exact h6),hE1]
     refine qX ?_
     refine cX [some (0,none),some (6,some 1)] (qC) _ (by simp only [go_sem];rfl) zF zF ?_
     simp (disch:=omega) only [go_sem,seval]
     try simp
    have hE1:= @kR p y r h5
    refine qX ?_
    refine qK (cK ⟨p.read,p.ready,y::r⟩ (by simp at hyl⊢;omega)) (qI 6 1) ?_
    refine qB (fun h6=>?_) fun h6=>?_
    ·rw [eV (by rw [hE1];exact h6)]
     refine qX ?_
     refine cX (qI 0 1++qI 3 1) (qC) _ (by simp only [go_sem];rfl) zF zF ?_
     simp (disch:=omega) only [go_sem,seval]
    rw [eL (by rw [hE1];exact h6),hE1]
    refine qX ?_
    refine cX (qI 0 1++qI 6 1) (qC) _ (by simp only [go_sem];rfl) zF zF ?_
    simp (disch:=omega) only [go_sem,seval]
    try simp
   |false=>
    rw [hgl,if_neg zP] at hyr'
    have e1:g.acc.map PieceD.cs++[g.own.cs]=PieceD.cs y::r.map PieceD.cs:=by rw [<-RY,<-hyr'];simp
    have e2:g.acc.length+1=r.length+1:=by have:=congrArg List.length hyr';simpa using this
    simp only [PieceD.cs] at e1
    try simp (disch:=omega) only [go_sem,seval,hgl,e1,e2]
    refine qD [0,1,2,3,4,5,6,7] ?_
    refine aE (e8 ⟨p.read,p.ready,y::r⟩) (qI 9 1) ?_
    refine⟨qC,ae 400 ?_⟩
    rw [show nextOf ⟨p.read,p.ready,y::r⟩=nextOf p from rfl]
    refine qX ?_
    refine qB (fun h5=>?_) fun h5=>?_
    ·refine qD [0,1,2,3,4,5,6,7,8,9] ?_
     refine⟨qC,ae 400 ?_⟩
     have hE1:= @jT p y r h5
     refine qX ?_
     refine qK (cK ⟨p.read,p.ready++y.text,r⟩ (by simp at hyl⊢;omega)) [some (9,some 1)] ?_
     refine qB (fun h6=>?_) fun h6=>?_
     ·rw [eV (by rw [hE1];exact h6)]
      refine qX ?_
      refine cX (qI 0 1++qI 3 1) (qC) _ (by simp only [go_sem];rfl) zF zF ?_
      simp (disch:=omega) only [go_sem,seval]
     rw [eL (by rw [hE1];exact h6),hE1]
     refine qX ?_
     refine cX [some (0,none),some (9,some 1)] (qC) _ (by simp only [go_sem];rfl) zF zF ?_
     simp (disch:=omega) only [go_sem,seval]
     try simp
    have hE1:= @kR p y r h5
    refine qX ?_
    refine qK (cK ⟨p.read,p.ready,y::r⟩ (by simp at hyl⊢;omega)) (qI 9 1) ?_
    refine qB (fun h6=>?_) fun h6=>?_
    ·rw [eV (by rw [hE1];exact h6)]
     refine qX ?_
     refine cX (qI 0 1++qI 3 1) (qC) _ (by simp only [go_sem];rfl) zF zF ?_
     simp (disch:=omega) only [go_sem,seval]
    rw [eL (by rw [hE1];exact h6),hE1]
    refine qX ?_
    refine cX (qI 0 1++qI 9 1) (qC) _ (by simp only [go_sem];rfl) zF zF ?_
    simp (disch:=omega) only [go_sem,seval]
    try simp
  rw [hf (by rw [hok];simp [h2])]
  refine qX ?_
  refine cX (qI 0 1++qI 3 1) (qC) _ (by simp only [go_sem];rfl) zF zF ?_
  simp (disch:=omega) only [go_sem,seval]
 rw [hf (by rw [hok];simp [h1])]
 refine qX ?_
 refine cX (qI 0 1++qI 3 1) (qC) _ (by simp only [go_sem];rfl) zF zF ?_
 simp (disch:=omega) only [go_sem,seval]
theorem DR {p:PiecesD} (h:piecesOk p=true):p.list.length<=20:=by
 simp only [piecesOk,RP,decide_eq_true_eq] at h
 omega
theorem Lm (p:PiecesD) (l:List PieceD):mY p l=p\/piecesOk (mY p l)=true:=by
 rw [mY]
 split
 ·rename_i h;exact .inr h
 exact .inl rfl
theorem kS (p:PiecesD) (n:Int) (t:List UInt8):putPiece p n t=p\/piecesOk (putPiece p n t)=true:=by
 rw [putPiece]
 split
 ·split
  ·exact .inl rfl
  split<;>exact Lm _ _
 exact .inl rfl
theorem nM {p:PiecesD} {n:Int} {t:List UInt8} (h:p.list.length<=1048576):(putPiece p n t).list.length<=1048576:=by
 rcases kS p n t with e|e
 ·rw [e];exact h
 have:=DR e;omega
def qk (e:EndD) (x:LetterD):PiecesD:=putPiece e.inp x.pos x.text
def ko (e:EndD) (x:LetterD):Bool:=decide (0<=iP e x) && decide (nextOf (qk e x)<=1000000000)
def sr (x:LetterD) (n m:Int):LetterD:=ah (roadOf x) { af with kind:=12,sgn:=n,pos:=m }
def b_ (e:EndD) (x:LetterD):EndD×List LetterD:=
 if ko e x then ({ e with inp:=qk e x },[sr x (bt e.subs (iP e x).toNat).give (nextOf (qk e x))]) else (e,[])
theorem ql {e:EndD} {x:LetterD} (h:ko e x=false):b_ e x=(e,[]):=by rw [b_,if_neg (by simp [h])]
theorem mv {e:EndD} {x:LetterD} {n:Nat} (h:ko e x=true) (ho:iP e x=(n:Int)) (hn:n < e.subs.length):
  b_ e x=({ e with inp:=qk e x },[sr x e.subs[n].give (nextOf (qk e x))]):=by rw [b_,if_pos h,ho,Sd,cI hn]
def EndD.hpS (x:EndD):Hp:=[some ⟨x.own.map AddrD.cs,4,69,true,true⟩,some ⟨x.far.map AddrD.cs,4,69,true,true⟩,some ⟨x.subs.map SubD.cs,10,58,true,true⟩,some ⟨x.halfs.map HalfD.cs,8,113,true,true⟩,some ⟨x.inp.list.map PieceD.cs,2,117,false,true⟩,some ⟨x.done.map bh,1,3,true,true⟩,some ⟨x.over.map bh,1,3,true,true⟩]
attribute [go_sem] EndD.hpS
def bJ (e:EndD) (x:LetterD):Bool:=ai e && du x && ownsAddr e.own x.to
def aG (e:EndD) (x:LetterD):EndD×List LetterD:=
 if bJ e x then
  if x.kind=1 then aI e x else if x.kind=2 then br e x else if x.kind=4 then bK e x else if x.kind=5 then aF e x
  else if x.kind=6 then aq e x else if x.kind=7 then aM e x else if x.kind=8 then bW e x else if x.kind=9 then bY e x
  else if x.kind=10 then bZ e x else if x.kind=11 then b_ e x else if x.kind=12 then bR e x else if x.kind=13 then bG e x else (e,[])
 else (e,[])
theorem qm {e:EndD} {x:LetterD} (h:bJ e x=false):aG e x=(e,[]):=by rw [aG,if_neg (by simp [h])]
theorem xc {e:EndD} {x:LetterD} (h:∀ k:Int,k=1\/k=2\/4<=k/\k<=13->¬ x.kind=k):aG e x=(e,[]):=by
 by_cases hc:bJ e x=true
 ·rw [aG,if_pos hc,if_neg (h 1 zO),if_neg (h 2 zO),if_neg (h 4 zO),if_neg (h 5 zO),if_neg (h 6 zO),if_neg (h 7 zO),if_neg (h 8 zO),if_neg (h 9 zO),if_neg (h 10 zO),if_neg (h 11 zO),if_neg (h 12 zO),if_neg (h 13 zO)]
 exact qm (by simpa using hc)
theorem tM {e:EndD} {x:LetterD} (h:bJ e x=true) (hk:x.kind=1):aG e x=aI e x:=by rw [aG,if_pos h];simp [hk]
theorem tN {e:EndD} {x:LetterD} (h:bJ e x=true) (hk:x.kind=2):aG e x=br e x:=by rw [aG,if_pos h];simp [hk]
theorem qo {e:EndD} {x:LetterD} (h:bJ e x=true) (hk:x.kind=4):aG e x=bK e x:=by rw [aG,if_pos h];simp [hk]
theorem qp {e:EndD} {x:LetterD} (h:bJ e x=true) (hk:x.kind=5):aG e x=aF e x:=by rw [aG,if_pos h];simp [hk]
theorem qq {e:EndD} {x:LetterD} (h:bJ e x=true) (hk:x.kind=6):aG e x=aq e x:=by rw [aG,if_pos h];simp [hk]
theorem qr {e:EndD} {x:LetterD} (h:bJ e x=true) (hk:x.kind=7):aG e x=aM e x:=by rw [aG,if_pos h];simp [hk]
theorem qs {e:EndD} {x:LetterD} (h:bJ e x=true) (hk:x.kind=8):aG e x=bW e x:=by rw [aG,if_pos h];simp [hk]
theorem tO {e:EndD} {x:LetterD} (h:bJ e x=true) (hk:x.kind=9):aG e x=bY e x:=by rw [aG,if_pos h];simp [hk]
theorem oM {e:EndD} {x:LetterD} (h:bJ e x=true) (hk:x.kind=10):aG e x=bZ e x:=by rw [aG,if_pos h];simp [hk]
theorem mw {e:EndD} {x:LetterD} (h:bJ e x=true) (hk:x.kind=11):aG e x=b_ e x:=by rw [aG,if_pos h];simp [hk]
theorem my {e:EndD} {x:LetterD} (h:bJ e x=true) (hk:x.kind=12):aG e x=bR e x:=by rw [aG,if_pos h];simp [hk]
theorem oN {e:EndD} {x:LetterD} (h:bJ e x=true) (hk:x.kind=13):aG e x=bG e x:=by rw [aG,if_pos h];simp [hk]
theorem zj (e:EndD) (x:LetterD) (hs:Small e) (hsp:SmallP e.inp):aP 191 [.ag (e.cs 0),.ag x.cs] (e.hp false) (.tu [.ag ((b_ e x).1.cs 7),.sc (.sl 14 0 (b_ e x).2.length)])
  (e.hp false++((b_ e x).1.hp true++[some ⟨(b_ e x).2.map LetterD.cs,19,73,true,true⟩])):=by
 have hC:=(qH (aV e))
 have hK:=(qH (cd e))
 have hS:=fq e x (by have:=hs.subs;omega)
 have hL:=cu x
 have hbs:=fN e x
 have hP:=zh e.inp x.pos x.text hsp
 have hbd:=gD e x
 have hf:=ql (e:=e) (x:=x)
 have ht:=fun (n:Nat)=> @mv e x n
 have hok:=ko.eq_1 e x
 have hql:(qk e x).list.length<=1048576:=nM (by have:=hs.list;omega)
 rw [show putPiece e.inp x.pos x.text=qk e x from rfl] at hP
 generalize qk e x=Q at*
 generalize b_ e x=R at*
 refine qE func191 ntmps191 results191 fun E hE=>?_
 refine qK (hC) (qI 0 7) ?_
 refine qK (hS) (qI 0 7) ?_
 rcases hbs with hk|⟨hk0,hk1⟩
 ·rw [hk]
  refine qX ?_
  refine qK (hK) (qI 0 7) ?_
  refine qB (fun h1=>?_) fun h1=>?_
  ·refine qK (hL) [] ?_
   refine qB (fun h2=>?_) fun h2=>?_
   ·rw [hf (by rw [hok];have:=cV (e:=e) (x:=x) (by rintro⟨_,_,hh⟩;omega);simp;omega)]
    refine qX ?_
    exact qF (qI 0 7++qI 10 7++qO 1)
   rw [hf (by rw [hok];have:=cV (e:=e) (x:=x) (by rintro⟨_,hh,_⟩;rw [h2] at hh;cases hh);simp;omega)]
   refine qX ?_
   exact qF (qI 0 7++qI 10 7++qO 1)
  rw [hf (by rw [hok];have:=cV (e:=e) (x:=x) (by rintro⟨hh,_⟩;rw [h1] at hh;cases hh);simp;omega)]
  refine qX ?_
  exact qF (qI 0 7++qI 10 7++qO 1)
 obtain⟨n,hk⟩:=RR hk0
 have hn:n < e.subs.length:=zO
 rw [hk]
 refine qX ?_
 refine qK (hK) (qI 0 7) ?_
 refine qB (fun h1=>?_) fun h1=>?_
 ·refine qK (hL) [] ?_
  refine qB (fun h2=>?_) fun h2=>?_
  ·have hon:=kj h1 h2 hk
   have hq1:=h1
   refine qX ?_
   refine qK (hP) (qI 4 1) ?_
   refine qK (kP Q) (qI 18 1) ?_
   refine qB (fun h7=>?_) fun h7=>?_
   ·rw [hf (by rw [hok];simp;omega)]
    refine qX ?_
    exact qF (qI 0 7++qI 10 7++qO 1)
   rw [ht _ (by rw [hok];simp [hon];omega) hon hn]
   refine qX ?_
   refine aH [(13,14)] [(qU [0,2,3,7,2,1,10,6]),[0,1,3,4,5,6,7,8,9,2,10,11,12,14,13,15]] (by kernel_rfl) (qC) (by kernel_rfl) ?_
   simp only [bf]
   refine⟨aa 400 ?_,aa 400 ?_⟩
   all_goals simp (disch:=omega) only [go_sem,seval]
   all_goals
    refine aE (dV x) [] ?_
    refine aE (kP Q) (qI 18 1) ?_
    refine aE (ce (roadOf x) { af with kind:=12,sgn:=e.subs[n].give,pos:=nextOf Q }) [] ?_
    refine qG ?_
    refine qP (qI 0 7++qI 10 4++qI 18 1++qI 15 2++qI 20 1) ?_
    first|exact⟨⟩|simp [sr,ah,LetterD.cs]
  rw [hf (by rw [hok];have:=cV (e:=e) (x:=x) (by rintro⟨_,hh,_⟩;rw [h2] at hh;cases hh);simp;omega)]
  refine qX ?_
  exact qF (qI 0 7++qI 10 7++qO 1)
 rw [hf (by rw [hok];have:=cV (e:=e) (x:=x) (by rintro⟨hh,_⟩;rw [h1] at hh;cases hh);simp;omega)]
 refine qX ?_
 exact qF (qI 0 7++qI 10 7++qO 1)
theorem zk (e:EndD) (x:LetterD) (hs:Small e) (hsp:SmallP e.inp):aP 212 [.ag (e.cs 0),.ag x.cs] (e.hp false) (.tu [.ag ((b_ e x).1.cs 7),.sc (.sl 14 0 (b_ e x).2.length)])
  (e.hp false++((b_ e x).1.hpS++[some ⟨(b_ e x).2.map LetterD.cs,19,73,true,true⟩])):=by
 have hC:=(qH (aA e))
 have hK:=(qH (a_ e))
 have hS:=iY e x hs
 have hP:=zi e.inp x.pos x.text hsp
 have hbd:=gD e x
 have hf:=ql (e:=e) (x:=x)
 have ht:=fun (n:Nat)=> @mv e x n
 have hok:=ko.eq_1 e x
 have hql:(qk e x).list.length<=1048576:=nM (by have:=hs.list;omega)
 rw [show putPiece e.inp x.pos x.text=qk e x from rfl] at hP
 generalize qk e x=Q at*
 generalize b_ e x=R at*
 refine qE func212 ntmps212 results212 fun E hE=>?_
 refine qK (hC) (qI 0 7) ?_
 refine qK (hS) (qI 0 7) ?_
 rcases hbd with hon|⟨n,hon,hk,hn,hq1,hq2⟩
 ·rw [hf (by rw [hok];simp [hon]),hon]
  refine qX ?_
  exact qF (qI 0 7++qI 10 7++qI 18 1)
 rw [hon]
 refine qX ?_
 refine qX ?_
 refine qK (hP) (qI 4 1) ?_
 refine qK (e8 Q) (qI 19 1) ?_
 refine qB (fun h7=>?_) fun h7=>?_
 ·rw [hf (by rw [hok];simp;omega)]
  refine qX ?_
  exact qF (qI 0 7++qI 10 7++qI 18 1)
 rw [ht _ (by rw [hok];simp [hon];omega) hon hn]
 refine qX ?_
 refine aH [(0,15),(3,0),(11,0),(13,0),(14,0)] [(qU [1,2,4,7,3,1,11,4,0,1,15,3]),(qU [1,2,4,7,3,1,11,3,0,1,14,4]),(qU [1,2,4,7,3,1,11,2,0,1,13,5]),(qU [1,2,4,7,3,1,0,1,11,7]),(qU [1,2,4,7,0,1,3,1,11,7]),(qU [1,2,4,7,3,1,11,5,0,1,16,2])] (by kernel_rfl) (qC) (by kernel_rfl) ?_
 simp only [bf]
 refine⟨aa 400 ?_,aa 400 ?_,aa 400 ?_,aa 400 ?_,aa 400 ?_,aa 400 ?_⟩
 all_goals simp (disch:=omega) only [go_sem,seval]
 all_goals
  refine aE (cZ x) [] ?_
  refine aE (e8 Q) (qI 19 1) ?_
  refine aE (bC (roadOf x) { af with kind:=12,sgn:=e.subs[n].give,pos:=nextOf Q }) [] ?_
  refine qG ?_
  refine qP (qI 0 7++qI 10 4++qI 19 1++qI 15 2++qI 22 1) ?_
  first|exact⟨⟩|simp [sr,ah,LetterD.cs]
theorem BV (k:KnownD) (t:TagD) (h0:k.keys.length<=1048576) (h1:k.tags.length<=1048576):aP 141 [.ag (k.cs 0),.ag t.cs] (k.hp false) (.sc (.bo (iw k t))) (k.hp false):=by
 obtain⟨R,hR⟩:∃ R,R=iw k t:=⟨_,rfl⟩
 rw [<-hR]
 rw [iw] at hR
 have hcmp:=TagD.cmp t kN
 simp only [TagD.cs,kN,go_sem] at hcmp
 have ht:kN=⟨0,0,0,0,0⟩:=rfl
 refine qE func141 ntmps141 results141 fun E hE=>?_
 try simp (disch:=omega) only [go_sem,seval,hcmp]
 refine qB (fun b1=>?_) fun b1=>?_
 ·have b1':=of_decide_eq_false b1
  refine qK (jp k.keys t.one h0) (qI 0 1) ?_
  refine qB (fun b2=>?_) fun b2=>?_
  ·refine qK (jp k.keys t.two h0) (qI 0 1) ?_
   refine qB (fun b3=>?_) fun b3=>?_
   ·have hR':R=true:=by rw [hR];simp [b2,b3]
    subst hR'
    refine qX ?_
    exact qF (qI 0 2)
   have hR':R=(k.tags.take 300).any (fun u=>decide (u=t)):=by rw [hR,ht];simp [b1',b2,b3]
   refine qX ?_
   refine gI 2 hE (fun s (i:Nat)=>s.at (qU [0,2,4,1,6,35]) [(5,.sc (.int .i64 (i:Nat)))] (s.hp)) (fun (i:Nat)=>i<=k.tags.length/\i<=300/\((k.tags.take 300).drop i).any (fun u=>decide (u=t))=R) (fun (i:Nat)=>k.tags.length - i) 0 (qI 0 4) (⟨RQ _,RQ _,by rw [hR'];rfl⟩) fun i hi N hN=>?_
   obtain⟨hi1,hi2,hi3⟩:=hi
   refine qR ?_
   refine qB (fun h=>?_) fun h=>?_
   ·refine qB (fun h2=>?_) fun h2=>?_
    ·rw [eG zS,Se] at hi3
     have hcm:=TagD.cmp k.tags[i] t
     simp only [TagD.cs,go_sem] at hcm
     refine qX ?_
     refine qD [0,1,2,3,4,5,6] ?_
     refine⟨qC,ae 400 ?_⟩
     try simp (disch:=omega) only [go_sem,seval,hcm]
     refine qB (fun h3=>?_) fun h3=>?_
     ·rw [decide_eq_true h3,Sh] at hi3
      subst hi3
      refine qX ?_
      exact qF (qI 0 2)
     rw [decide_eq_false h3,Sf] at hi3
     exact qN hN (i+1) (qI 0 4) (by (try dsimp only);exact⟨zO,zO,hi3⟩)
    rw [eh zS] at hi3
    subst hi3
    refine qX ?_
    exact qF (qI 0 2)
   rw [eh zS] at hi3
   subst hi3
   refine qX ?_
   exact qF (qI 0 2)
  have hR':R=(k.tags.take 300).any (fun u=>decide (u=t)):=by rw [hR,ht];simp [b1',b2]
  refine qX ?_
  refine gI 2 hE (fun s (i:Nat)=>s.at (qU [0,2,4,1,6,35]) [(5,.sc (.int .i64 (i:Nat)))] (s.hp)) (fun (i:Nat)=>i<=k.tags.length/\i<=300/\((k.tags.take 300).drop i).any (fun u=>decide (u=t))=R) (fun (i:Nat)=>k.tags.length - i) 0 (qI 0 4) (⟨RQ _,RQ _,by rw [hR'];rfl⟩) fun i hi N hN=>?_
  obtain⟨hi1,hi2,hi3⟩:=hi
  refine qR ?_
  refine qB (fun h=>?_) fun h=>?_
  ·refine qB (fun h2=>?_) fun h2=>?_
   ·rw [eG zS,Se] at hi3
    have hcm:=TagD.cmp k.tags[i] t
    simp only [TagD.cs,go_sem] at hcm
    refine qX ?_
    refine qD [0,1,2,3,4,5,6] ?_
    refine⟨qC,ae 400 ?_⟩
    try simp (disch:=omega) only [go_sem,seval,hcm]
    refine qB (fun h3=>?_) fun h3=>?_
    ·rw [decide_eq_true h3,Sh] at hi3
     subst hi3
     refine qX ?_
     exact qF (qI 0 2)
    rw [decide_eq_false h3,Sf] at hi3
    exact qN hN (i+1) (qI 0 4) (by (try dsimp only);exact⟨zO,zO,hi3⟩)
   rw [eh zS] at hi3
   subst hi3
   refine qX ?_
   exact qF (qI 0 2)
  rw [eh zS] at hi3
  subst hi3
  refine qX ?_
  exact qF (qI 0 2)
 have b1':=of_decide_eq_true b1
 have hR':R=true:=by rw [hR,ht];simp [b1']
 subst hR'
 refine qX ?_
 exact qF (qI 0 2)
theorem BW (k:KnownD) (t:TagD) (h0:k.keys.length<=1048576) (h1:k.tags.length<=1048576):aP 116 [.ag (k.cs 0),.ag t.cs] (k.hp false) (.sc (.bo (iw k t))) (k.hp false):=by
 obtain⟨R,hR⟩:∃ R,R=iw k t:=⟨_,rfl⟩
 rw [<-hR]
 rw [iw] at hR
 have hcmp:=TagD.cmp t kN
 simp only [TagD.cs,kN,go_sem] at hcmp
 have ht:kN=⟨0,0,0,0,0⟩:=rfl
 refine qE func116 ntmps116 results116 fun E hE=>?_
 try simp (disch:=omega) only [go_sem,seval,hcmp]
 refine qB (fun b1=>?_) fun b1=>?_
 ·have b1':=of_decide_eq_false b1
  refine qK (gX k.keys t.one h0) (qI 0 1) ?_
  refine qB (fun b2=>?_) fun b2=>?_
  ·refine qK (gX k.keys t.two h0) (qI 0 1) ?_
   refine qB (fun b3=>?_) fun b3=>?_
   ·have hR':R=true:=by rw [hR];simp [b2,b3]
    subst hR'
    refine qX ?_
    exact qF (qI 0 2)
   have hR':R=(k.tags.take 300).any (fun u=>decide (u=t)):=by rw [hR,ht];simp [b1',b2,b3]
   refine qX ?_
   refine gI 2 hE (fun s (i:Nat)=>s.at (qU [0,2,4,1,6,35]) [(5,.sc (.int .i64 (i:Nat)))] (s.hp)) (fun (i:Nat)=>i<=k.tags.length/\i<=300/\((k.tags.take 300).drop i).any (fun u=>decide (u=t))=R) (fun (i:Nat)=>k.tags.length - i) 0 (qI 0 4) (⟨RQ _,RQ _,by rw [hR'];rfl⟩) fun i hi N hN=>?_
   obtain⟨hi1,hi2,hi3⟩:=hi
   refine qR ?_
   refine qB (fun h=>?_) fun h=>?_
   ·refine qB (fun h2=>?_) fun h2=>?_
    ·rw [eG zS,Se] at hi3
     have hcm:=TagD.cmp k.tags[i] t
     simp only [TagD.cs,go_sem] at hcm
     refine qX ?_
     refine qD [0,1,2,3,4,5,6] ?_
     refine⟨qC,ae 400 ?_⟩
     try simp (disch:=omega) only [go_sem,seval,hcm]
     refine qB (fun h3=>?_) fun h3=>?_
     ·rw [decide_eq_true h3,Sh] at hi3
      subst hi3
      refine qX ?_
      exact qF (qI 0 2)
     rw [decide_eq_false h3,Sf] at hi3
     exact qN hN (i+1) (qI 0 4) (by (try dsimp only);exact⟨zO,zO,hi3⟩)
    rw [eh zS] at hi3
    subst hi3
    refine qX ?_
    exact qF (qI 0 2)
   rw [eh zS] at hi3
   subst hi3
   refine qX ?_
   exact qF (qI 0 2)
  have hR':R=(k.tags.take 300).any (fun u=>decide (u=t)):=by rw [hR,ht];simp [b1',b2]
  refine qX ?_
  refine gI 2 hE (fun s (i:Nat)=>s.at (qU [0,2,4,1,6,35]) [(5,.sc (.int .i64 (i:Nat)))] (s.hp)) (fun (i:Nat)=>i<=k.tags.length/\i<=300/\((k.tags.take 300).drop i).any (fun u=>decide (u=t))=R) (fun (i:Nat)=>k.tags.length - i) 0 (qI 0 4) (⟨RQ _,RQ _,by rw [hR'];rfl⟩) fun i hi N hN=>?_
  obtain⟨hi1,hi2,hi3⟩:=hi
  refine qR ?_
  refine qB (fun h=>?_) fun h=>?_
  ·refine qB (fun h2=>?_) fun h2=>?_
   ·rw [eG zS,Se] at hi3
    have hcm:=TagD.cmp k.tags[i] t
    simp only [TagD.cs,go_sem] at hcm
    refine qX ?_
    refine qD [0,1,2,3,4,5,6] ?_
    refine⟨qC,ae 400 ?_⟩
    try simp (disch:=omega) only [go_sem,seval,hcm]
    refine qB (fun h3=>?_) fun h3=>?_
    ·rw [decide_eq_true h3,Sh] at hi3
     subst hi3
     refine qX ?_
     exact qF (qI 0 2)
    rw [decide_eq_false h3,Sf] at hi3
    exact qN hN (i+1) (qI 0 4) (by (try dsimp only);exact⟨zO,zO,hi3⟩)
   rw [eh zS] at hi3
   subst hi3
   refine qX ?_
   exact qF (qI 0 2)
  rw [eh zS] at hi3
  subst hi3
  refine qX ?_
  exact qF (qI 0 2)
 have b1':=of_decide_eq_true b1
 have hR':R=true:=by rw [hR,ht];simp [b1']
 subst hR'
 refine qX ?_
 exact qF (qI 0 2)
theorem i7 (l:List LetterD) (hl:l.length<=1048576):aP 32 [.sc (.sl 0 0 l.length)] [some ⟨l.map LetterD.cs,19,73,false,true⟩] (.sc (.sl 1 0 l.length)) [some ⟨l.map LetterD.cs,19,73,false,true⟩,some ⟨l.map LetterD.cs,19,73,true,true⟩]:=by
 refine qE func32 ntmps32 results32 fun E hE=>?_
 exact qF (qI 0 1++qI 2 1)
theorem nN (k:KnownD) (h0:k.keys.length<=1048576) (h1:k.tags.length<=1048576):aP 33 [.ag (k.cs 0)] (k.hp false) (.ag (k.cs 2)) (k.hp false++k.hp true):=by
 refine qE func33 ntmps33 results33 fun E hE=>?_
 refine aH [(2,3)] [[0,1,4,5,2,3,6,7,8],[0,1,4,5,3,2,6,7,8]] (by kernel_rfl) (qC) (by kernel_rfl) ?_
 simp only [bf]
 refine⟨aa 400 ?_,aa 400 ?_⟩
 all_goals simp (disch:=omega) only [go_sem,seval]
 ·refine aE (df k.keys h0) (qI 0 1) ?_
  refine qG ?_
  exact qF (qI 0 2++qI 4 1++qI 6 1)
 refine aE (df k.keys h0) (qI 0 1) ?_
 refine qG ?_
 exact qF (qI 0 2++qI 5 2)
theorem HM (l:List TagD) (h:TagD):l.map TagD.cs++[h.cs]=(l++[h]).map TagD.cs:=by simp
theorem HN {k:KnownD} {t:TagD} (h:iw k t=false) (h2:k.tags.length < 300):eS k t={ k with tags:=k.tags++[t] }:=if_pos ⟨h,h2⟩
theorem DS {k:KnownD} {t:TagD} (h:iw k t=true):eS k t=k:=if_neg (by simp [h])
theorem DT {k:KnownD} {t:TagD} (h2:¬ k.tags.length < 300):eS k t=k:=if_neg (fun h=>h2 h.2)
theorem xe (k:KnownD) (t:TagD) (h0:k.keys.length<=1048576) (h1:k.tags.length<=1048576):aP 138 [.ag (k.cs 0),.ag t.cs] (k.hp false) (.ag ((eS k t).cs 2)) (k.hp false++(eS k t).hp true):=by
 have hM:=BV k t h0 h1
 have ht:=HN (k:=k) (t:=t)
 have hf1:=DS (k:=k) (t:=t)
 have hf2:=DT (k:=k) (t:=t)
 generalize eS k t=R at*
 refine qE func138 ntmps138 results138 fun E hE=>?_
 refine qK (nN k h0 h1) (qI 0 2) ?_
 refine qK (hM) (qI 0 2) ?_
 refine qB (fun b1=>?_) fun b1=>?_
 ·refine qB (fun b2=>?_) fun b2=>?_
  ·rw [ht b1 zO]
   have e:=HM k.tags t
   simp only [TagD.cs] at e
   try simp (disch:=omega) only [go_sem,seval,e]
   refine qP (qI 0 2++qI 5 1++qI 9 1) ?_
   first|exact⟨⟩|simp
  rw [hf2 zO]
  refine qX ?_
  exact qF (qI 0 2++qI 5 2)
 rw [hf1 b1]
 refine qX ?_
 exact qF (qI 0 2++qI 5 2)
def dM (x:WorldD) (p0 p1 p2 p3 p4 p5 p6 p7 p8 p9 p10 p11 p12 p13 p14 p15 p16 p17 p18 p19 p20:Nat):List Sc:=[.int .i64 x.a.side,.int .i64 x.a.state,.int .i64 x.a.key,.int .i64 x.a.peer,.int .i64 x.a.policy.kind,.int .i64 x.a.policy.many,.sl p0 0 x.a.own.length,.sl p1 0 x.a.far.length,.sl p2 0 x.a.subs.length,.sl p3 0 x.a.halfs.length,.int .i64 x.a.bucket.rate,.int .i64 x.a.bucket.burst,.int .i64 x.a.bucket.cur,.st x.a.out.text,.int .i64 x.a.out.base,.int .i64 x.a.out.sent,.int .i64 x.a.out.room,.int .i64 x.a.inp.read,.st x.a.inp.ready,.sl p4 0 x.a.inp.list.length,.sl p5 0 x.a.done.length,.sl p6 0 x.a.over.length,.int .i64 x.a.draw,.int .i64 x.a.now,.int .i64 x.a.pick,.int .i64 x.b.side,.int .i64 x.b.state,.int .i64 x.b.key,.int .i64 x.b.peer,.int .i64 x.b.policy.kind,.int .i64 x.b.policy.many,.sl p7 0 x.b.own.length,.sl p8 0 x.b.far.length,.sl p9 0 x.b.subs.length,.sl p10 0 x.b.halfs.length,.int .i64 x.b.bucket.rate,.int .i64 x.b.bucket.burst,.int .i64 x.b.bucket.cur,.st x.b.out.text,.int .i64 x.b.out.base,.int .i64 x.b.out.sent,.int .i64 x.b.out.room,.int .i64 x.b.inp.read,.st x.b.inp.ready,.sl p11 0 x.b.inp.list.length,.sl p12 0 x.b.done.length,.sl p13 0 x.b.over.length,.int .i64 x.b.draw,.int .i64 x.b.now,.int .i64 x.b.pick,.sl p14 0 x.bag.length,.sl p15 0 x.past.length,.st x.wroteA,.st x.wroteB,.st x.readA,.st x.readB,.sl p16 0 x.known.keys.length,.sl p17 0 x.known.tags.length,.sl p18 0 x.nums.length,.sl p19 0 x.answersA.length,.sl p20 0 x.answersB.length]
attribute [go_sem] dM
structure SmallW (w:WorldD):Prop where
 a:Small w.a
 b:Small w.b
 bag:w.bag.length<=1048576
 past:w.past.length<=1048576
 keys:w.known.keys.length<=1048576
 tags:w.known.tags.length<=1048576
 nums:w.nums.length<=1048576
 ansA:w.answersA.length<=1048576
 ansB:w.answersB.length<=1048576
theorem xf (k:KnownD) (t:TagD) (h0:k.keys.length<=1048576) (h1:k.tags.length<=1048576):aP 164 [.ag (k.cs 0),.ag t.cs] (k.hp false) (.ag ((eS k t).cs 2)) (k.hp false++(eS k t).hp true):=by
 have hM:=BW k t h0 h1
 have ht:=HN (k:=k) (t:=t)
 have hf1:=DS (k:=k) (t:=t)
 have hf2:=DT (k:=k) (t:=t)
 generalize eS k t=R at*
 refine gn func164 (by kernel_rfl) rfl fun E hE=>ae 400 ?_
 simp (disch:=omega) only [ntmps164,results164,go_sem,seval]
 refine bO [(0,6),(0,4),(0,9),(3,6),(3,4),(3,9),(4,9),(7,9),(9,6),(4,6)] [(0,3),(3,7),(4,7),(6,7)] [[1,2,5,0,3,4,6,7,8,9,10],[1,2,5,0,3,6,4,7,8,9,10],[1,2,5,0,3,4,9,6,7,8,10],[1,2,5,0,3,4,6,9,7,8,10],[1,2,5,0,3,6,4,9,7,8,10],[1,2,5,0,3,9,4,6,7,8,10],[1,2,5,0,3,9,6,4,7,8,10],[1,2,5,0,3,6,9,4,7,8,10],[1,2,5,0,9,3,4,6,7,8,10],[1,2,5,0,9,3,6,4,7,8,10],[1,2,5,0,4,3,6,7,8,9,10],[1,2,5,0,4,3,9,6,7,8,10],[1,2,5,0,4,3,6,9,7,8,10],[1,2,5,0,4,9,3,6,7,8,10],[1,2,5,0,9,4,3,6,7,8,10],[1,2,5,0,6,3,4,7,8,9,10],[1,2,5,0,6,3,4,9,7,8,10],[1,2,5,0,6,3,9,4,7,8,10],[1,2,5,0,9,6,3,4,7,8,10],[1,2,5,0,6,9,3,4,7,8,10],[1,2,5,0,4,6,3,7,8,9,10],[1,2,5,0,6,4,3,7,8,9,10],[1,2,5,0,4,6,3,9,7,8,10],[1,2,5,0,6,4,3,9,7,8,10],[1,2,5,0,4,9,6,3,7,8,10],[1,2,5,0,4,6,9,3,7,8,10],[1,2,5,0,6,4,9,3,7,8,10],[1,2,5,0,9,4,6,3,7,8,10],[1,2,5,0,9,6,4,3,7,8,10],[1,2,5,0,6,9,4,3,7,8,10],[1,2,5,9,0,3,4,6,7,8,10],[1,2,5,9,0,3,6,4,7,8,10],[1,2,5,9,0,4,3,6,7,8,10],[1,2,5,9,0,6,3,4,7,8,10],[1,2,5,9,0,4,6,3,7,8,10],[1,2,5,9,0,6,4,3,7,8,10],[1,2,5,4,0,3,6,7,8,9,10],[1,2,5,4,0,3,9,6,7,8,10],[1,2,5,4,0,3,6,9,7,8,10],[1,2,5,4,0,9,3,6,7,8,10],[1,2,5,4,0,6,3,7,8,9,10],[1,2,5,4,0,6,3,9,7,8,10],[1,2,5,4,0,9,6,3,7,8,10],[1,2,5,4,0,6,9,3,7,8,10],[1,2,5,4,9,0,3,6,7,8,10],[1,2,5,9,4,0,3,6,7,8,10],[1,2,5,4,9,0,6,3,7,8,10],[1,2,5,9,4,0,6,3,7,8,10],[1,2,5,6,0,3,4,7,8,9,10],[1,2,5,6,0,3,4,9,7,8,10],[1,2,5,6,0,3,9,4,7,8,10],[1,2,5,6,0,9,3,4,7,8,10],[1,2,5,6,0,4,3,7,8,9,10],[1,2,5,6,0,4,3,9,7,8,10],[1,2,5,6,0,4,9,3,7,8,10],[1,2,5,6,0,9,4,3,7,8,10],[1,2,5,9,6,0,3,4,7,8,10],[1,2,5,6,9,0,3,4,7,8,10],[1,2,5,9,6,0,4,3,7,8,10],[1,2,5,6,9,0,4,3,7,8,10],[1,2,5,4,6,0,3,7,8,9,10],[1,2,5,6,4,0,3,7,8,9,10],[1,2,5,4,6,0,3,9,7,8,10],[1,2,5,6,4,0,3,9,7,8,10],[1,2,5,4,6,0,9,3,7,8,10],[1,2,5,6,4,0,9,3,7,8,10],[1,2,5,4,9,6,0,3,7,8,10],[1,2,5,4,6,9,0,3,7,8,10],[1,2,5,6,4,9,0,3,7,8,10],[1,2,5,9,4,6,0,3,7,8,10],[1,2,5,9,6,4,0,3,7,8,10],[1,2,5,6,9,4,0,3,7,8,10]] 2 hE (fun s=>s.at (qU [6,9]) [(5,.sc (.pt 7 0 0))] (s.hp++[some ⟨k.keys.map bh,1,3,true,true⟩,some ⟨k.tags.map TagD.cs,5,71,true,true⟩,some ⟨[[.sl 5 0 k.keys.length,.sl 6 0 k.tags.length]],2,42,true,false⟩])) (by kernel_rfl) (qC) (by kernel_rfl) ?_ ?_
 ·simp only [bf]
  refine⟨aa 400 ?_,aa 400 ?_,aa 400 ?_,aa 400 ?_,aa 400 ?_,aa 400 ?_,aa 400 ?_,aa 400 ?_,aa 400 ?_,aa 400 ?_,aa 400 ?_,aa 400 ?_,aa 400 ?_,aa 400 ?_,aa 400 ?_,aa 400 ?_,aa 400 ?_,aa 400 ?_,aa 400 ?_,aa 400 ?_,aa 400 ?_,aa 400 ?_,aa 400 ?_,aa 400 ?_,aa 400 ?_,aa 400 ?_,aa 400 ?_,aa 400 ?_,aa 400 ?_,aa 400 ?_,aa 400 ?_,aa 400 ?_,aa 400 ?_,aa 400 ?_,aa 400 ?_,aa 400 ?_,aa 400 ?_,aa 400 ?_,aa 400 ?_,aa 400 ?_,aa 400 ?_,aa 400 ?_,aa 400 ?_,aa 400 ?_,aa 400 ?_,aa 400 ?_,aa 400 ?_,aa 400 ?_,aa 400 ?_,aa 400 ?_,aa 400 ?_,aa 400 ?_,aa 400 ?_,aa 400 ?_,aa 400 ?_,aa 400 ?_,aa 400 ?_,aa 400 ?_,aa 400 ?_,aa 400 ?_,aa 400 ?_,aa 400 ?_,aa 400 ?_,aa 400 ?_,aa 400 ?_,aa 400 ?_,aa 400 ?_,aa 400 ?_,aa 400 ?_,aa 400 ?_,aa 400 ?_,aa 400 ?_⟩
  ·simp (disch:=omega) only [go_sem,seval]
   exact qZ (qI 0 5++qI 6 1++qI 8 2)
  ·simp (disch:=omega) only [go_sem,seval]
   exact qZ (qI 0 5++qI 6 1++qI 8 2)
  ·simp (disch:=omega) only [go_sem,seval]
   exact qZ (qI 0 5++qI 6 1++qI 9 1++qI 8 1)
  ·simp (disch:=omega) only [go_sem,seval]
   exact qZ (qI 0 5++qI 6 1++qI 9 1++qI 8 1)
  ·simp (disch:=omega) only [go_sem,seval]
   exact qZ (qI 0 5++qI 6 1++qI 9 1++qI 8 1)
  ·simp (disch:=omega) only [go_sem,seval]
   exact qZ (qI 0 5++qI 6 1++qI 9 1++qI 7 1)
  ·simp (disch:=omega) only [go_sem,seval]
   exact qZ (qI 0 5++qI 6 1++qI 9 1++qI 7 1)
  ·simp (disch:=omega) only [go_sem,seval]
   exact qZ (qI 0 5++qI 6 1++qI 9 1++qI 7 1)
  ·simp (disch:=omega) only [go_sem,seval]
   exact qZ (qI 0 5++qI 7 1++qI 9 1++qI 6 1)
  ·simp (disch:=omega) only [go_sem,seval]
   exact qZ (qI 0 5++qI 7 1++qI 9 1++qI 6 1)
  ·simp (disch:=omega) only [go_sem,seval]
   exact qZ (qI 0 5++qI 7 3)
  ·simp (disch:=omega) only [go_sem,seval]
   exact qZ (qI 0 5++qI 7 1++qI 9 1++qI 8 1)
  ·simp (disch:=omega) only [go_sem,seval]
   exact qZ (qI 0 5++qI 7 1++qI 9 1++qI 8 1)
  ·simp (disch:=omega) only [go_sem,seval]
   exact qZ (qI 0 5++qI 8 2++qI 7 1)
  ·simp (disch:=omega) only [go_sem,seval]
   exact qZ (qI 0 5++qI 8 2++qI 6 1)
  ·simp (disch:=omega) only [go_sem,seval]
   exact qZ (qI 0 5++qI 6 1++qI 8 2)
  ·simp (disch:=omega) only [go_sem,seval]
   exact qZ (qI 0 5++qI 6 1++qI 9 1++qI 8 1)
  ·simp (disch:=omega) only [go_sem,seval]
   exact qZ (qI 0 5++qI 6 1++qI 9 1++qI 7 1)
  ·simp (disch:=omega) only [go_sem,seval]
   exact qZ (qI 0 5++qI 7 1++qI 9 1++qI 6 1)
  ·simp (disch:=omega) only [go_sem,seval]
   exact qZ (qI 0 5++qI 7 1++qI 9 1++qI 6 1)
  ·simp (disch:=omega) only [go_sem,seval]
   exact qZ (qI 0 5++qI 7 3)
  ·simp (disch:=omega) only [go_sem,seval]
   exact qZ (qI 0 5++qI 7 3)
  ·simp (disch:=omega) only [go_sem,seval]
   exact qZ (qI 0 5++qI 7 1++qI 9 1++qI 8 1)
  ·simp (disch:=omega) only [go_sem,seval]
   exact qZ (qI 0 5++qI 7 1++qI 9 1++qI 8 1)
  ·simp (disch:=omega) only [go_sem,seval]
   exact qZ (qI 0 5++qI 8 2++qI 7 1)
  ·simp (disch:=omega) only [go_sem,seval]
   exact qZ (qI 0 5++qI 8 2++qI 7 1)
  ·simp (disch:=omega) only [go_sem,seval]
   exact qZ (qI 0 5++qI 8 2++qI 7 1)
  ·simp (disch:=omega) only [go_sem,seval]
   exact qZ (qI 0 5++qI 8 2++qI 6 1)
  ·simp (disch:=omega) only [go_sem,seval]
   exact qZ (qI 0 5++qI 8 2++qI 6 1)
  ·simp (disch:=omega) only [go_sem,seval]
   exact qZ (qI 0 5++qI 8 2++qI 6 1)
  ·simp (disch:=omega) only [go_sem,seval]
   exact qZ (qI 0 5++qI 7 1++qI 9 1++qI 5 1)
  ·simp (disch:=omega) only [go_sem,seval]
   exact qZ (qI 0 5++qI 7 1++qI 9 1++qI 5 1)
  ·simp (disch:=omega) only [go_sem,seval]
   exact qZ (qI 0 5++qI 8 2++qI 5 1)
  ·simp (disch:=omega) only [go_sem,seval]
   exact qZ (qI 0 5++qI 7 1++qI 9 1++qI 5 1)
  ·simp (disch:=omega) only [go_sem,seval]
   exact qZ (qI 0 5++qI 8 2++qI 5 1)
  ·simp (disch:=omega) only [go_sem,seval]
   exact qZ (qI 0 5++qI 8 2++qI 5 1)
  ·simp (disch:=omega) only [go_sem,seval]
   exact qZ (qI 0 5++qI 7 3)
  ·simp (disch:=omega) only [go_sem,seval]
   exact qZ (qI 0 5++qI 7 1++qI 9 1++qI 8 1)
  ·simp (disch:=omega) only [go_sem,seval]
   exact qZ (qI 0 5++qI 7 1++qI 9 1++qI 8 1)
  ·simp (disch:=omega) only [go_sem,seval]
   exact qZ (qI 0 5++qI 8 2++qI 7 1)
  ·simp (disch:=omega) only [go_sem,seval]
   exact qZ (qI 0 5++qI 7 3)
  ·simp (disch:=omega) only [go_sem,seval]
   exact qZ (qI 0 5++qI 7 1++qI 9 1++qI 8 1)
  ·simp (disch:=omega) only [go_sem,seval]
   exact qZ (qI 0 5++qI 8 2++qI 7 1)
  ·simp (disch:=omega) only [go_sem,seval]
   exact qZ (qI 0 5++qI 8 2++qI 7 1)
  ·simp (disch:=omega) only [go_sem,seval]
   exact qZ (qI 0 5++qI 8 2++qI 6 1)
  ·simp (disch:=omega) only [go_sem,seval]
   exact qZ (qI 0 5++qI 8 2++qI 5 1)
  ·simp (disch:=omega) only [go_sem,seval]
   exact qZ (qI 0 5++qI 8 2++qI 6 1)
  ·simp (disch:=omega) only [go_sem,seval]
   exact qZ (qI 0 5++qI 8 2++qI 5 1)
  ·simp (disch:=omega) only [go_sem,seval]
   exact qZ (qI 0 5++qI 6 1++qI 8 2)
  ·simp (disch:=omega) only [go_sem,seval]
   exact qZ (qI 0 5++qI 6 1++qI 9 1++qI 8 1)
  ·simp (disch:=omega) only [go_sem,seval]
   exact qZ (qI 0 5++qI 6 1++qI 9 1++qI 7 1)
  ·simp (disch:=omega) only [go_sem,seval]
   exact qZ (qI 0 5++qI 7 1++qI 9 1++qI 6 1)
  ·simp (disch:=omega) only [go_sem,seval]
   exact qZ (qI 0 5++qI 7 3)
  ·simp (disch:=omega) only [go_sem,seval]
   exact qZ (qI 0 5++qI 7 1++qI 9 1++qI 8 1)
  ·simp (disch:=omega) only [go_sem,seval]
   exact qZ (qI 0 5++qI 8 2++qI 7 1)
  ·simp (disch:=omega) only [go_sem,seval]
   exact qZ (qI 0 5++qI 8 2++qI 6 1)
  ·simp (disch:=omega) only [go_sem,seval]
   exact qZ (qI 0 5++qI 7 1++qI 9 1++qI 5 1)
  ·simp (disch:=omega) only [go_sem,seval]
   exact qZ (qI 0 5++qI 7 1++qI 9 1++qI 5 1)
  ·simp (disch:=omega) only [go_sem,seval]
   exact qZ (qI 0 5++qI 8 2++qI 5 1)
  ·simp (disch:=omega) only [go_sem,seval]
   exact qZ (qI 0 5++qI 8 2++qI 5 1)
  ·simp (disch:=omega) only [go_sem,seval]
   exact qZ (qI 0 5++qI 7 3)
  ·simp (disch:=omega) only [go_sem,seval]
   exact qZ (qI 0 5++qI 7 3)
  ·simp (disch:=omega) only [go_sem,seval]
   exact qZ (qI 0 5++qI 7 1++qI 9 1++qI 8 1)
  ·simp (disch:=omega) only [go_sem,seval]
   exact qZ (qI 0 5++qI 7 1++qI 9 1++qI 8 1)
  ·simp (disch:=omega) only [go_sem,seval]
   exact qZ (qI 0 5++qI 8 2++qI 7 1)
  ·simp (disch:=omega) only [go_sem,seval]
   exact qZ (qI 0 5++qI 8 2++qI 7 1)
  ·simp (disch:=omega) only [go_sem,seval]
   exact qZ (qI 0 5++qI 8 2++qI 6 1)
  ·simp (disch:=omega) only [go_sem,seval]
   exact qZ (qI 0 5++qI 8 2++qI 6 1)
  ·simp (disch:=omega) only [go_sem,seval]
   exact qZ (qI 0 5++qI 8 2++qI 6 1)
  ·simp (disch:=omega) only [go_sem,seval]
   exact qZ (qI 0 5++qI 8 2++qI 5 1)
  ·simp (disch:=omega) only [go_sem,seval]
   exact qZ (qI 0 5++qI 8 2++qI 5 1)
  simp (disch:=omega) only [go_sem,seval]
  exact qZ (qI 0 5++qI 8 2++qI 5 1)
 refine ae 400 ?_
 try simp (disch:=omega) only [go_sem,seval]
 refine aD (qC) (hM) (qI 0 2) qM zF (ae 400 ?_)
 simp (disch:=omega) only [go_sem,seval]
 split<;>rename_i b1<;>(try simp only [zR] at b1)<;>simp (disch:=omega) only [go_sem,seval,b1]<;>(try simp only [zQ] at b1)<;>try simp (disch:=omega) only [go_sem,seval]
 ·split<;>rename_i b2<;>(try simp only [zR] at b2)<;>simp (disch:=omega) only [go_sem,seval,b2]<;>(try simp only [zQ] at b2)<;>try simp (disch:=omega) only [go_sem,seval]
  ·rw [ht b1 zO]
   have e:=HM k.tags t
   simp only [TagD.cs] at e
   try simp (disch:=omega) only [go_sem,seval,e]
   refine aK (qI 0 2++qI 5 1++qI 9 1) (qC) _ (by simp only [go_sem];rfl) zF zF ?_
   simp (disch:=omega) only [go_sem,seval]
   try simp
  rw [hf2 zO]
  try simp (disch:=omega) only [go_sem,seval]
  refine aK (qI 0 2++qI 5 2) (qC) _ (by simp only [go_sem];rfl) zF zF ?_
  simp (disch:=omega) only [go_sem,seval]
 rw [hf1 b1]
 try simp (disch:=omega) only [go_sem,seval]
 refine aK (qI 0 2++qI 5 2) (qC) _ (by simp only [go_sem];rfl) zF zF ?_
 simp (disch:=omega) only [go_sem,seval]
theorem iH (w:WorldD) (hs:SmallW w):aP 17 [.ag (w.cs 0)] (w.hp false) (.ag (w.cs 21)) (w.hp false++w.hp true):=by
 have ha:=hs.a
 have hb:=hs.b
 refine qE func17 ntmps17 results17 fun E hE=>?_
 refine qK (aV w.a (by have:=ha.own;omega) (by have:=ha.far;omega) (by have:=ha.subs;omega) (by have:=ha.halfs;omega) (by have:=ha.list;omega) (by have:=ha.done;omega) (by have:=ha.over;omega)) (qI 0 7) ?_
 refine qK (aV w.b (by have:=hb.own;omega) (by have:=hb.far;omega) (by have:=hb.subs;omega) (by have:=hb.halfs;omega) (by have:=hb.list;omega) (by have:=hb.done;omega) (by have:=hb.over;omega)) (qI 7 7) ?_
 refine qK (i7 w.bag hs.bag) (qI 14 1) ?_
 refine qK (i7 w.past hs.past) (qI 15 1) ?_
 refine qK (nN w.known hs.keys hs.tags) (qI 16 2) ?_
 refine qK (df w.nums hs.nums) (qI 18 1) ?_
 refine qK (df w.answersA hs.ansA) (qI 19 1) ?_
 refine qK (df w.answersB hs.ansB) (qI 20 1) ?_
 exact qF (qI 0 21++qI 23 21)
theorem jU (w:WorldD) (hs:SmallW w):aP 77 [.ag (w.cs 0)] (w.hp false) (.ag (w.cs 21)) (w.hp false++w.hp true):=by
 have ha:=hs.a
 have hb:=hs.b
 have h1:=hs.bag
 have h2:=hs.past
 have h3:=hs.keys
 have h4:=hs.tags
 have h5:=hs.nums
 have h6:=hs.ansA
 have h7:=hs.ansB
 refine gn func77 (by kernel_rfl) rfl fun E hE=>ae 400 ?_
 simp (disch:=omega) only [ntmps77,results77,go_sem,seval]
 refine aD (qC) (aA w.a (by have:=ha.own;omega) (by have:=ha.far;omega) (by have:=ha.subs;omega) (by have:=ha.halfs;omega) (by have:=ha.list;omega) (by have:=ha.done;omega) (by have:=ha.over;omega)) (qI 0 7) qM zF (ae 400 ?_)
 simp (disch:=omega) only [go_sem,seval]
 refine aD (qC) (aA w.b (by have:=hb.own;omega) (by have:=hb.far;omega) (by have:=hb.subs;omega) (by have:=hb.halfs;omega) (by have:=hb.list;omega) (by have:=hb.done;omega) (by have:=hb.over;omega)) (qI 7 7) qM zF (ae 400 ?_)
 simp (disch:=omega) only [go_sem,seval]
 refine bO [(0,8),(0,5),(4,8),(4,5),(5,8)] [(0,4)] [(qU [1,3,6,2,0,1,4,2,8,5]),[1,2,3,6,7,0,4,8,5,9,10,11,12],[1,2,3,6,7,0,5,4,8,9,10,11,12],[1,2,3,6,7,0,8,4,5,9,10,11,12],[1,2,3,6,7,0,5,8,4,9,10,11,12],[1,2,3,6,7,0,8,5,4,9,10,11,12],[1,2,3,6,7,5,0,4,8,9,10,11,12],[1,2,3,6,7,5,0,8,4,9,10,11,12],(qU [1,3,6,3,0,1,4,2,9,4]),[1,2,3,6,7,8,0,5,4,9,10,11,12],[1,2,3,6,7,5,8,0,4,9,10,11,12],[1,2,3,6,7,8,5,0,4,9,10,11,12]] 21 hE (fun s=>s.at (qU [21,12]) [] (s.hp.set 21 (some ⟨[dM w 23 24 25 26 27 28 29 30 31 32 33 34 35 36 38 40 41 42 18 19 20],61,44,true,false⟩)++[some ⟨w.known.keys.map bh,1,3,true,true⟩,some ⟨w.known.tags.map TagD.cs,5,71,true,true⟩])) (by kernel_rfl) (qC) (by kernel_rfl) ?_ ?_
 ·simp only [bf]
  refine⟨aa 400 ?_,aa 400 ?_,aa 400 ?_,aa 400 ?_,aa 400 ?_,aa 400 ?_,aa 400 ?_,aa 400 ?_,aa 400 ?_,aa 400 ?_,aa 400 ?_,aa 400 ?_⟩
  ·simp (disch:=omega) only [go_sem,seval]
   exact qZ (qI 0 41++qI 42 1++qI 44 1)
  ·simp (disch:=omega) only [go_sem,seval]
   exact qZ (qI 0 41++qI 42 1++qI 44 1)
  ·simp (disch:=omega) only [go_sem,seval]
   exact qZ (qI 0 41++qI 43 2)
  ·simp (disch:=omega) only [go_sem,seval]
   exact qZ (qI 0 41++qI 42 1++qI 44 1)
  ·simp (disch:=omega) only [go_sem,seval]
   exact qZ (qI 0 41++qI 43 2)
  ·simp (disch:=omega) only [go_sem,seval]
   exact qZ (qI 0 41++qI 43 2)
  ·simp (disch:=omega) only [go_sem,seval]
   exact qZ (qI 0 41++qI 43 2)
  ·simp (disch:=omega) only [go_sem,seval]
   exact qZ (qI 0 41++qI 43 2)
  ·simp (disch:=omega) only [go_sem,seval]
   exact qZ (qI 0 41++qI 42 1++qI 44 1)
  ·simp (disch:=omega) only [go_sem,seval]
   exact qZ (qI 0 41++qI 43 2)
  ·simp (disch:=omega) only [go_sem,seval]
   exact qZ (qI 0 41++qI 43 2)
  simp (disch:=omega) only [go_sem,seval]
  exact qZ (qI 0 41++qI 43 2)
 refine ae 400 ?_
 try simp (disch:=omega) only [go_sem,seval]
 refine aK (qI 0 21++qI 23 14++qI 38 1++qI 40 3++qI 44 1++qI 46 1++qI 48 1) (qC) _ (by simp only [go_sem];rfl) zF zF ?_
 simp (disch:=omega) only [go_sem,seval]
theorem e6 (n:Int):sideAt n=0\/sideAt n=1\/sideAt n=2:=by
 rw [sideAt]
 split
 ·exact .inr (.inl rfl)
 split
 ·exact .inr (.inr rfl)
 exact .inl rfl
def aL (w:WorldD) (side:Int) (e:EndD):WorldD:=if side=1 then { w with a:=e } else { w with b:=e }
def dD (l:List Int) (n:Int):List Int:=if 0 < n/\m8 l n=false/\l.length < 300 then l++[n] else l
theorem F1 {l:List Int} {n:Int} (h1:0 < n) (h2:m8 l n=false) (h3:l.length < 300):dD l n=l++[n]:=if_pos ⟨h1,h2,h3⟩
theorem BX {l:List Int} {n:Int} (h1:¬ 0 < n):dD l n=l:=if_neg (fun h=>h1 h.1)
theorem BY {l:List Int} {n:Int} (h2:m8 l n=true):dD l n=l:=if_neg (by simp [h2])
theorem BZ {l:List Int} {n:Int} (h3:¬ l.length < 300):dD l n=l:=if_neg (fun h=>h3 h.2.2)
theorem fe {l:List Int} {n:Int} (h:l.length<=1048576):(dD l n).length<=1048576:=by
 rw [dD];split
 ·rename_i hh;have:=hh.2.2;simp;omega
 exact h
def fm (l:List LetterD) (x:LetterD):List LetterD:=if l.length < 150 then l++[x] else l
def pm (l:List LetterD) (x:LetterD):List LetterD:=if l.length < 40 then l++[x] else l
def ln (l:List Int) (yes:Bool) (n:Int):List Int:=if yes=true/\l.length < 300 then l++[n] else l
theorem vD {l:List LetterD} {x:LetterD} (h:l.length < 150):fm l x=l++[x]:=if_pos h
theorem vE {l:List LetterD} {x:LetterD} (h:¬ l.length < 150):fm l x=l:=if_neg h
theorem xg {l:List LetterD} {x:LetterD} (h:l.length < 40):pm l x=l++[x]:=if_pos h
theorem B0 {l:List LetterD} {x:LetterD} (h:¬ l.length < 40):pm l x=l:=if_neg h
theorem B1 {l:List Int} {n:Int} (h:l.length < 300):ln l true n=l++[n]:=if_pos ⟨rfl,h⟩
theorem B2 {l:List Int} {b:Bool} {n:Int} (h:¬ l.length < 300):ln l b n=l:=if_neg (fun hh=>h hh.2)
theorem iI {l:List Int} {n:Int}:ln l false n=l:=if_neg zP
theorem DU {l:List LetterD} {x:LetterD} (h:l.length<=1048576):(fm l x).length<=1048576:=by
 rw [fm];split
 ·simp;omega
 exact h
theorem NC {l:List LetterD} {x:LetterD} (h:l.length<=1048576):(pm l x).length<=1048576:=by
 rw [pm];split
 ·simp;omega
 exact h
theorem vF {l:List Int} {b:Bool} {n:Int} (h:l.length<=1048576):(ln l b n).length<=1048576:=by
 rw [ln];split
 ·rename_i hh;have:=hh.2;simp;omega
 exact h
theorem nP {k:KnownD} {t:TagD} (h:k.tags.length<=1048576):(eS k t).tags.length<=1048576:=by
 rw [eS];split
 ·rename_i hh;have:=hh.2;simp;omega
 exact h
theorem i8 {k:KnownD} {t:TagD}:(eS k t).keys=k.keys:=by
 rw [eS];split<;>rfl
def lq (side k:Int) (x:LetterD):Bool:=decide (x.kind=5) && decide (side=k)
theorem xh {side k:Int} {x:LetterD} (h:¬ x.kind=5):lq side k x=false:=by simp [lq,h]
theorem tP {side k:Int} {x:LetterD} (h:¬ side=k):lq side k x=false:=by simp [lq,h]
theorem B4 {k:Int} {x:LetterD} (h:x.kind=5):lq k k x=true:=by simp [lq,h]
def jN (side:Int) (w:WorldD) (x:LetterD):WorldD:=
 { w with past:=fm w.past x,answersA:=ln w.answersA (lq side 1 x) w.a.now,answersB:=ln w.answersB (lq side 2 x) w.b.now }
def mZ (w:WorldD) (x:LetterD):WorldD:={ w with known:=eS w.known x.tag,nums:=dD (dD (dD w.nums x.nonce) x.give) x.sgn }
def aU (side:Int) (w:WorldD) (x:LetterD):WorldD:=
 if sideAt x.to=0 then mZ (jN side w x) x else { jN side w x with bag:=pm w.bag x }
def al (side:Int) (w:WorldD) (l:List LetterD):WorldD:=l.foldl (aU side) w
theorem mz {side:Int} {w:WorldD} {l:List LetterD} {k:Nat} (h:k < l.length):al side w (l.drop k)=al side (aU side w l[k]) (l.drop (k+1)):=by
 rw [RS h];rfl
theorem oO {side:Int} {w:WorldD} {l:List LetterD} {k:Nat} (h:l.length<=k):al side w (l.drop k)=w:=by
 rw [RZ h];rfl
def gL (w:WorldD) (side:Int) (l:List LetterD):WorldD:=if side=1\/side=2 then al side w l else w
def cU (w:WorldD) (x:LetterD):WorldD:=
 if sideAt x.to=0 then w else gL (aL w (sideAt x.to) (aG (bS w (sideAt x.to)) x).1) (sideAt x.to) (aG (bS w (sideAt x.to)) x).2
structure SmallP2 (w:WorldD):Prop where
 bag:w.bag.length<=1048576
 past:w.past.length<=1048576
 keys:w.known.keys.length<=1048576
 tags:w.known.tags.length<=1048576
 nums:w.nums.length<=1048576
 ansA:w.answersA.length<=1048576
 ansB:w.answersB.length<=1048576
theorem SmallW.rest {w:WorldD} (h:SmallW w):SmallP2 w:=⟨h.bag,h.past,h.keys,h.tags,h.nums,h.ansA,h.ansB⟩
theorem i9 {side:Int} {w:WorldD} {x:LetterD}:(aU side w x).a=w.a/\(aU side w x).b=w.b/\(aU side w x).wroteA=w.wroteA/\(aU side w x).wroteB=w.wroteB/\(aU side w x).readA=w.readA/\(aU side w x).readB=w.readB:=by
 rw [aU];split<;>exact⟨rfl,rfl,rfl,rfl,rfl,rfl⟩
theorem eM {side:Int} {w:WorldD} {x:LetterD} (h:SmallP2 w):SmallP2 (aU side w x):=by
 rw [aU];split
 ·exact⟨h.bag,DU h.past,by rw [mZ,jN,i8];exact h.keys,nP h.tags,fe (fe (fe h.nums)),vF h.ansA,vF h.ansB⟩
 exact⟨NC h.bag,DU h.past,h.keys,h.tags,h.nums,vF h.ansA,vF h.ansB⟩
theorem bx {side:Int}:∀ {l:List LetterD} {w:WorldD},(al side w l).a=w.a/\(al side w l).b=w.b/\(al side w l).wroteA=w.wroteA/\(al side w l).wroteB=w.wroteB/\(al side w l).readA=w.readA/\(al side w l).readB=w.readB
 |[],w=>⟨rfl,rfl,rfl,rfl,rfl,rfl⟩
 |x::l,w=>by
  have h1:=bx (side:=side) (l:=l) (w:=aU side w x)
  have h2:=i9 (side:=side) (w:=w) (x:=x)
  rw [show al side w (x::l)=al side (aU side w x) l from rfl]
  exact⟨h1.1.trans h2.1,h1.2.1.trans h2.2.1,h1.2.2.1.trans h2.2.2.1,h1.2.2.2.1.trans h2.2.2.2.1,h1.2.2.2.2.1.trans h2.2.2.2.2.1,h1.2.2.2.2.2.trans h2.2.2.2.2.2⟩
theorem uR {side:Int}:∀ {l:List LetterD} {w:WorldD},SmallP2 w->SmallP2 (al side w l)
 |[],w,h=>h
 |x::l,w,h=>uR (l:=l) (eM h)
theorem F2 {l:List HalfD} {h:HalfD} (hl:l.length<=1048576):(aX l h).1.length<=1048576:=by
 rw [aX];split
 ·rename_i hh;have:=cf hh;dsimp only;omega
 exact hl
theorem xi {l:List AddrD} {a:AddrD} (hl:l.length<=1048576):(aS l a).1.length<=1048576:=by
 rw [aS];split
 ·rename_i hh;have:=mr hh;dsimp only;omega
 exact hl
theorem uS {l:List AddrD} {n:Int} (hl:l.length<=1048576):(bQ l n).1.length<=1048576:=by
 rw [bQ];split
 ·exact hl
 simp only [RT,R3,R8];omega
theorem DV {l:List HalfD} {r:RoadD} (hl:l.length<=1048576):(bH l r).length<=1048576:=by
 rw [bH];split
 ·exact hl
 simp only [RT,R3,R8];omega
theorem Au {e:EndD} (h:ai e=true):e.done.length<=256/\e.over.length<=256:=by
 simp only [ai,RP] at h
 exact⟨by have:=w5 (l:=e.done) (m:=e.own) (by simp_all);omega,by have:=w5 (l:=e.over) (m:=e.far) (by simp_all);omega⟩
theorem ND {e:EndD} {x:LetterD} (h:0<=iP e x):ai e=true:=by
 rcases gD e x with h1|⟨n,_,_,_,h2,_⟩
 ·omega
 exact h2
theorem vn {e:EndD} {x:LetterD} (hs:Small e):Small (aI e x).1:=by
 rw [aI];split
 ·rename_i h
  simp only [iy,RP,decide_eq_true_eq] at h
  exact⟨hs.own,by simp [e_],by simp only [RT,Sg];omega,hs.halfs,hs.list,hs.done,hs.over⟩
 exact hs
theorem xj {e:EndD} {x:LetterD} (hs:Small e):Small (br e x).1:=by
 rw [br];split
 ·exact⟨hs.own,by simp [e_],by simpa only [RU] using hs.subs,hs.halfs,hs.list,hs.done,hs.over⟩
 exact hs
theorem xk {e:EndD} {x:LetterD} (hs:Small e):Small (bK e x).1:=by
 rw [bK];split
 ·split
  ·exact⟨hs.own,hs.far,hs.subs,by simpa only [RU] using hs.halfs,hs.list,hs.done,hs.over⟩
  exact⟨hs.own,hs.far,hs.subs,F2 hs.halfs,hs.list,hs.done,hs.over⟩
 exact hs
theorem qt {e:EndD} {x:LetterD} (hs:Small e):Small (aF e x).1:=by
 rw [aF];split
 ·exact⟨hs.own,hs.far,by simpa only [RU] using hs.subs,hs.halfs,hs.list,hs.done,hs.over⟩
 exact hs
theorem qu {e:EndD} {x:LetterD} (hs:Small e):Small (aq e x).1:=by
 rw [aq];split
 ·split
  ·rename_i h
   simp only [pL,RP,decide_eq_true_eq] at h
   refine⟨hs.own,hs.far,?_,DV hs.halfs,hs.list,hs.done,hs.over⟩
   split<;>simp only [cq,RT,RU,Sg]<;>omega
  split<;>exact hs
 exact hs
theorem ss {e:EndD} {x:LetterD} (hs:Small e):Small (aM e x).1:=by
 rw [aM];dsimp only;split
 ·exact⟨hs.own,hs.far,by simpa only [cq,RU] using hs.subs,hs.halfs,hs.list,hs.done,hs.over⟩
 exact hs
theorem xl {e:EndD} {x:LetterD} (hs:Small e):Small (bW e x).1:=by
 rw [bW];split
 ·exact⟨hs.own,xi hs.far,hs.subs,hs.halfs,hs.list,hs.done,hs.over⟩
 exact hs
theorem xm {e:EndD} {x:LetterD} (hs:Small e):Small (bY e x).1:=by
 rw [bY];dsimp only;split
 ·exact⟨by simpa only [RU] using hs.own,hs.far,hs.subs,hs.halfs,hs.list,hs.done,hs.over⟩
 exact hs
theorem xn {e:EndD} {x:LetterD} (hs:Small e):Small (bZ e x).1:=by
 rw [bZ];dsimp only;split
 ·rename_i h
  simp only [qj,RP,decide_eq_true_eq] at h
  have:=(Au (ND h.1)).2
  exact⟨hs.own,uS hs.far,by simpa only [Sl] using hs.subs,hs.halfs,hs.list,hs.done,by have:=nI e.over x.id;dsimp only;omega⟩
 exact hs
theorem xo {e:EndD} {x:LetterD} (hs:Small e):Small (b_ e x).1:=by
 rw [b_];split
 ·exact⟨hs.own,hs.far,hs.subs,hs.halfs,nM hs.list,hs.done,hs.over⟩
 exact hs
theorem xp {e:EndD} {x:LetterD} (hs:Small e):Small (bR e x).1:=by
 rw [bR];dsimp only;split
 ·exact⟨hs.own,hs.far,hs.subs,hs.halfs,hs.list,hs.done,hs.over⟩
 exact hs
theorem vo {e:EndD} {x:LetterD} (hs:Small e):Small (bG e x).1:=by
 rw [bG];dsimp only;split
 ·exact⟨hs.own,hs.far,by simpa only [cq,RU] using hs.subs,hs.halfs,hs.list,hs.done,hs.over⟩
 exact hs
theorem nQ {e:EndD} {x:LetterD} {Q:EndD×List LetterD->Prop} (h0:Q (e,[])) (h1:Q (aI e x)) (h2:Q (br e x)) (h4:Q (bK e x)) (h5:Q (aF e x)) (h6:Q (aq e x)) (h7:Q (aM e x)) (h8:Q (bW e x)) (h9:Q (bY e x)) (h10:Q (bZ e x)) (h11:Q (b_ e x)) (h12:Q (bR e x)) (h13:Q (bG e x)):Q (aG e x):=by
 by_cases hc:bJ e x=true
 ·by_cases k1:x.kind=1
  ·rw [tM hc k1];exact h1
  by_cases k2:x.kind=2
  ·rw [tN hc k2];exact h2
  by_cases k4:x.kind=4
  ·rw [qo hc k4];exact h4
  by_cases k5:x.kind=5
  ·rw [qp hc k5];exact h5
  by_cases k6:x.kind=6
  ·rw [qq hc k6];exact h6
  by_cases k7:x.kind=7
  ·rw [qr hc k7];exact h7
  by_cases k8:x.kind=8
  ·rw [qs hc k8];exact h8
  by_cases k9:x.kind=9
  ·rw [tO hc k9];exact h9
  by_cases k10:x.kind=10
  ·rw [oM hc k10];exact h10
  by_cases k11:x.kind=11
  ·rw [mw hc k11];exact h11
  by_cases k12:x.kind=12
  ·rw [my hc k12];exact h12
  by_cases k13:x.kind=13
  ·rw [oN hc k13];exact h13
  rw [xc (by intro k hk;omega)];exact h0
 rw [qm (by simpa using hc)];exact h0
theorem i_ {e:EndD} {x:LetterD} (hs:Small e):Small (aG e x).1:=
 nQ (Q:=fun r=>Small r.1) hs (vn hs) (xj hs) (xk hs) (qt hs) (qu hs) (ss hs) (xl hs) (xm hs) (xn hs) (xo hs) (xp hs) (vo hs)
theorem jz {e:EndD} {x:LetterD}:(aG e x).2.length<=1:=by
 refine nQ (Q:=fun r=>r.2.length<=1) zP ?_ ?_ ?_ ?_ ?_ ?_ ?_ ?_ ?_ ?_ ?_ ?_
 ·rw [aI];split<;>simp
 ·rw [br];split<;>simp
 ·rw [bK];split
  ·split<;>simp
  simp
 ·rw [aF];split<;>simp
 ·rw [aq];split
  ·split
   ·simp
   split<;>simp
  simp
 ·rw [aM];simp
 ·rw [bW];split<;>simp
 ·rw [bY];simp
 ·rw [bZ];simp
 ·rw [b_];split<;>simp
 ·rw [bR];simp
 rw [bG];simp
structure FineO (o:OutD):Prop where
 base:0<=o.base/\o.base<=1000000000
 room:1<=o.room/\o.room<=200
 len:(o.text.length:Int)<=o.room
 sent:o.base<=o.sent/\o.sent<=o.base+(o.text.length:Int)
theorem cg {o:OutD} (h:outOk o=true):FineO o:=by
 simp only [outOk,gp,cv,RP,decide_eq_true_eq] at h
 obtain⟨⟨⟨h1,h2⟩,h3⟩,h4,h5⟩:=h
 rw [yV zO] at h5
 exact⟨h1,h2,h3,h4,h5⟩
def nR (o:OutD) (t:List UInt8):Nat:=min t.length (o.room - (o.text.length:Int)).toNat
def nS (o:OutD) (t:List UInt8):Bool:=outOk o && decide (o.base+(o.text.length:Int)+(nR o t:Int)<=1000000000)
def dp (o:OutD) (t:List UInt8):OutD×Nat:=if nS o t then ({ o with text:=o.text++t.take (nR o t) },nR o t) else (o,0)
theorem Lq {o:OutD} {t:List UInt8} (h:nS o t=true):dp o t=({ o with text:=o.text++t.take (nR o t) },nR o t):=if_pos h
theorem Lr {o:OutD} {t:List UInt8} (h:nS o t=false):dp o t=(o,0):=if_neg (by simp [h])
def cO (e:EndD) (t:List UInt8):EndD×Nat:=if ai e then ({ e with out:=(dp e.out t).1 },(dp e.out t).2) else (e,0)
theorem B7 {e:EndD} {t:List UInt8} (h:ai e=true):cO e t=({ e with out:=(dp e.out t).1 },(dp e.out t).2):=if_pos h
theorem NF {e:EndD} {t:List UInt8} (h:ai e=false):cO e t=(e,0):=if_neg (by simp [h])
theorem B8 (o:OutD) (t:List UInt8):nR o t<=t.length:=Nat.min_le_left _ _
theorem Jj (o:OutD) (t:List UInt8):(dp o t).2<=t.length:=by
 rw [dp];split
 ·exact B8 o t
 exact RQ _
theorem DW (e:EndD) (t:List UInt8):(cO e t).2<=t.length:=by
 rw [cO];split
 ·exact Jj _ _
 exact RQ _
def tQ (p:PiecesD) (many:Int):Nat:=min many.toNat p.ready.length
def qw (p:PiecesD) (many:Int):Bool:=piecesOk p && decide (0<=many) && decide (p.read+(tQ p many:Int)<=1000000000)
def aZ (p:PiecesD) (many:Int):PiecesD×List UInt8:=if qw p many then (⟨p.read+(tQ p many:Int),p.ready.drop (tQ p many),p.list⟩,p.ready.take (tQ p many)) else (p,[])
theorem O4 {p:PiecesD} {m:Int} (h:qw p m=true):aZ p m=(⟨p.read+(tQ p m:Int),p.ready.drop (tQ p m),p.list⟩,p.ready.take (tQ p m)):=if_pos h
theorem QA {p:PiecesD} {m:Int} (h:qw p m=false):aZ p m=(p,[]):=if_neg (by simp [h])
def az (e:EndD) (many:Int):EndD×List UInt8:=if ai e then ({ e with inp:=(aZ e.inp many).1 },(aZ e.inp many).2) else (e,[])
theorem su {e:EndD} {m:Int} (h:ai e=true):az e m=({ e with inp:=(aZ e.inp m).1 },(aZ e.inp m).2):=if_pos h
theorem HQ {e:EndD} {m:Int} (h:ai e=false):az e m=(e,[]):=if_neg (by simp [h])
def fZ (o:OutD):Bool:=outOk o && !decide (o.sent=o.base+(o.text.length:Int))
def bU (o:OutD):List UInt8:=(o.text.drop (o.sent - o.base).toNat).take 20
def dJ (o:OutD):PieceD×Bool:=if fZ o then (⟨o.sent,bU o⟩,true) else (⟨0,[]⟩,false)
theorem Jk {o:OutD} (h:fZ o=true):dJ o=(⟨o.sent,bU o⟩,true):=if_pos h
theorem NG {o:OutD} (h:fZ o=false):dJ o=(⟨0,[]⟩,false):=if_neg (by simp [h])
def eN (o:OutD):OutD:=if fZ o then { o with sent:=o.sent+((bU o).length:Int) } else o
theorem QB {o:OutD} (h:fZ o=true):eN o={ o with sent:=o.sent+((bU o).length:Int) }:=if_pos h
def gN (e:EndD):Bool:=fZ e.out && decide (0<=bc e)
def uU (s:SubD) (o:OutD):LetterD:=ah s.road { af with kind:=11,sgn:=s.give,pos:=o.sent,text:=bU o }
def cB (e:EndD):EndD×List LetterD:=
 if gN e then ({ e with out:=eN e.out,pick:=gM e.pick },[uU (bt e.subs (bc e).toNat) e.out]) else (e,[])
theorem F3 {e:EndD} (h:gN e=false):cB e=(e,[]):=if_neg (by simp [h])
theorem Ls {e:EndD} {n:Nat} (h:gN e=true) (hk:bc e=(n:Int)) (hn:n < e.subs.length):
  cB e=({ e with out:={ e.out with sent:=e.out.sent+((bU e.out).length:Int) },pick:=gM e.pick },[uU e.subs[n] e.out]):=by
 have h1:fZ e.out=true:=by simp only [gN,RP] at h;exact h.1
 rw [cB,if_pos h,QB h1,hk,Sd,cI hn]
def pushN:Nat->EndD->EndD×List LetterD
 |0,e=>(e,[])
 |k+1,e=>((pushN k (cB e).1).1,(cB e).2++(pushN k (cB e).1).2)
def bs (e:EndD) (t:List UInt8):EndD×List LetterD:=pushN 3 (cO e t).1
def NH (e:EndD) (k:Int):Bool:=ai e && cv k 0 ((e.subs.length:Int) - 1) && decide ((bt e.subs k.toNat).state=3)
def mC (e:EndD) (k:Int):EndD×List LetterD:=
 if NH e k then ({ e with subs:=cq e.subs k.toNat 4 },[ah (bt e.subs k.toNat).road { af with kind:=13,sgn:=(bt e.subs k.toNat).give }]) else (e,[])
def F4 (e:EndD) (a:AddrD):Bool:=ai e && decide (aW e.own a.id < 0) && !m8 e.done a.id
def aR (e:EndD) (a:AddrD):EndD×Bool:=
 if F4 e a then ({ e with own:=(aS e.own { a with told:=false }).1 },(aS e.own { a with told:=false }).2) else (e,false)
def lN (e:EndD) (s:SubD) (a:AddrD):LetterD:=ah s.road { af with kind:=8,tag:=⟨3,e.key,e.peer,a.id,a.addr⟩,sgn:=s.give,id:=a.id,addr:=a.addr,spare:=a.spare }
def zn (e:EndD):Bool:=ai e && decide (e.state=2) && !decide ((gV e.subs).length=0)
def tellAddrs (e:EndD):List LetterD:=if zn e then (e.own.filter fun a=> !a.told).map (lN e (bt e.subs ((gV e.subs).headD 0))) else []
def HR (a:Int) (s:SubD):SubD:=if s.road.own=a then { s with state:=4 } else s
def HS (id:Int) (s:SubD):LetterD:=ah s.road { af with kind:=10,sgn:=s.give,id:=id }
def O5 (e:EndD) (n:Int):Bool:=ai e && decide (e.state=2) && decide (0<=aW e.own n)
def jA (e:EndD) (n:Int):List SubD:=e.subs.map (HR (nJ e.own (aW e.own n).toNat).addr)
def jV (e:EndD) (n:Int):EndD×List LetterD:=
 if O5 e n then ({ e with own:=(bQ e.own n).1,done:=jw e.done n,subs:=jA e n },(gV (jA e n)).map fun k=>HS n (bt (jA e n) k)) else (e,[])
def cW (b:BucketD):BucketD:=if bucketOk b then { b with cur:=min b.burst (b.cur+b.rate) } else b
def ci (l:List HalfD) (now:Int):List HalfD:=l.filter fun h=>decide (now < h.till)
def dQ (o:OutD):OutD:=if outOk o then { o with sent:=o.base } else o
def yQ (e:EndD):Bool:=ai e && decide (e.now < 1000000000) && e.subs.all fun s=>decide (s.tries < 1000000000)
def dB (e:EndD) (s:SubD):LetterD:=ah s.road { af with kind:=4,token:=d_ (3 - e.side),nonce:=s.mine,give:=s.take,spare:=s.spare }
def tickS (s:SubD):SubD:=if s.state=1\/s.state=2 then (if s.state=2/\9<=s.tries+1 then { s with tries:=s.tries+1,state:=4 } else { s with tries:=s.tries+1 }) else s
def tickL (e:EndD) (s:SubD):List LetterD:=
 if s.state=1\/s.state=2 then (if s.state=2/\9<=s.tries+1 then [] else if (s.tries+1).tmod 3≠0 then [] else if s.state=1 then [dB e s] else [bq e s]) else []
def tick0 (e:EndD):EndD:={ e with now:=e.now+1,bucket:=cW e.bucket,halfs:=ci e.halfs (e.now+1),out:=dQ e.out }
def bu (e:EndD) (l:List LetterD):EndD×List LetterD:=((pushN 3 e).1,l++tellAddrs e++(pushN 3 e).2)
def tick (e:EndD):EndD×List LetterD:=
 if yQ e then (if e.state=2 then bu { tick0 e with subs:=e.subs.map tickS } (e.subs.flatMap (tickL e)) else bu (tick0 e) []) else (e,[])
def cE (l:List SubD):List RoadD:=(l.filter fun s=>s.state != 4).map SubD.road
def fR (l:List AddrD) (n:Int):Bool:=l.any fun a=>a.addr == n
def aC (l:List AddrD) (n:Int):Bool:=l.foldl (fun b a=>if a.addr=n then a.spare else b) false
def tR (e:EndD) (r:RoadD):Bool:=
 ai e && decide (e.state=2) && nA r && decide (bF e.subs r < 0) && ownsAddr e.own r.own && fR e.far r.far && decide (e.subs.length < 8) && cv e.draw 1 999999996
def bL (e:EndD) (r:RoadD) (spare:Bool):SubD:=⟨r,1,spare,e.draw,0,0,e.draw+2,0⟩
def join (e:EndD) (r:RoadD) (spare:Bool):EndD×List LetterD:=
 if tR e r then ({ e with subs:=e.subs++[bL e r spare],draw:=e.draw+4 },[dB e (bL e r spare)]) else (e,[])
def cF (far:List AddrD):EndD->List RoadD->EndD×List LetterD
 |e,[]=>(e,[])
 |e,r::l=>((cF far (join e r (aC far r.far)).1 l).1,(join e r (aC far r.far)).2++(cF far (join e r (aC far r.far)).1 l).2)
def manage (e:EndD):EndD×List LetterD:=
 if ai e=true/\e.side=1 then cF e.far e (cQ (wanted e.policy e.own e.far) (cE e.subs)) else (e,[])
def eT (w:WorldD) (side:Int) (t:List UInt8):WorldD:=if side=1 then { w with wroteA:=w.wroteA++t } else { w with wroteB:=w.wroteB++t }
def cj (w:WorldD) (side:Int) (t:List UInt8):WorldD:=if side=1 then { w with readA:=w.readA++t } else { w with readB:=w.readB++t }
def oP (w:WorldD) (x:LetterD):Bool:=du x && !decide (sideAt x.to=0) && iw w.known x.tag && [x.key,x.nonce,x.give,x.sgn].all fun n=>decide (n < 1000) || m8 w.nums n
def dl (e:EndD) (a:ActD):EndD×List LetterD:=
 if a.kind=1 then bs e a.text else if a.kind=2 then ((az e a.many).1,[]) else if a.kind=3 then tick e else if a.kind=4 then manage e
 else if a.kind=5 then ((aR e a.addr).1,[]) else if a.kind=6 then jV e a.pos else mC e a.pos
def dE (w:WorldD) (a:ActD):WorldD:=
 if a.kind=1 then eT w a.side (a.text.take (cO (bS w a.side) a.text).2) else if a.kind=2 then cj w a.side (az (bS w a.side) a.many).2 else w
def cx (w:WorldD) (a:ActD):Bool:=decide (a.kind=5) && (!decide (sideAt a.addr.addr=a.side) || !(aR (bS w a.side) a.addr).2)
def dR (w:WorldD) (a:ActD):WorldD×Int:=
 if cx w a then (w,1) else (al a.side (aL (dE w a) a.side (dl (bS w a.side) a).1) (dl (bS w a.side) a).2,0)
def gO (l:List LetterD) (n:Int):List LetterD:=l.take n.toNat++l.drop (n.toNat+1)
def pN (l:List LetterD) (n:Nat):LetterD:=l.getD n default
def cc (w:WorldD) (a:ActD):WorldD×Int:=
 if a.kind=8\/a.kind=9 then
  if (w.bag.length:Int)<=a.pos then (w,1)
  else if a.kind=8 then (cU { w with bag:=gO w.bag a.pos } (pN w.bag a.pos.toNat),0) else ({ w with bag:=gO w.bag a.pos },0)
 else if a.kind=10 then
  if (w.bag.length:Int)<=a.pos\/40<=w.bag.length then (w,1) else ({ w with bag:=w.bag++[pN w.bag a.pos.toNat] },0)
 else if a.kind=11 then
  if oP w a.letter=false then (w,2) else if 40<=w.bag.length then (w,1) else ({ w with bag:=w.bag++[a.letter] },0)
 else
  if (w.past.length:Int)<=a.pos\/sideAt (pN w.past a.pos.toNat).to=0\/40<=w.bag.length then (w,1) else ({ w with bag:=w.bag++[pN w.past a.pos.toNat] },0)
def aJ (w:WorldD) (a:ActD):WorldD×Int:=if cN a then (if a.kind<=7 then dR w a else cc w a) else (w,3)
def eP (w:WorldD) (own:Bool):Hp:=[some ⟨w.a.own.map AddrD.cs,4,69,own,true⟩,some ⟨w.a.far.map AddrD.cs,4,69,own,true⟩,some ⟨w.a.subs.map SubD.cs,10,58,own,true⟩,some ⟨w.a.halfs.map HalfD.cs,8,113,own,true⟩,some ⟨w.a.inp.list.map PieceD.cs,2,117,own,true⟩,some ⟨w.a.done.map bh,1,3,own,true⟩,some ⟨w.a.over.map bh,1,3,own,true⟩,some ⟨w.b.own.map AddrD.cs,4,69,own,true⟩,some ⟨w.b.far.map AddrD.cs,4,69,own,true⟩,some ⟨w.b.subs.map SubD.cs,10,58,own,true⟩,some ⟨w.b.halfs.map HalfD.cs,8,113,own,true⟩,some ⟨w.b.inp.list.map PieceD.cs,2,117,own,true⟩,some ⟨w.b.done.map bh,1,3,own,true⟩,some ⟨w.b.over.map bh,1,3,own,true⟩]
def eQ (w:WorldD) (own:Bool):Hp:=[some ⟨w.bag.map LetterD.cs,19,73,own,true⟩,some ⟨w.past.map LetterD.cs,19,73,own,true⟩,some ⟨w.known.keys.map bh,1,3,own,true⟩,some ⟨w.known.tags.map TagD.cs,5,71,own,true⟩,some ⟨w.nums.map bh,1,3,own,true⟩,some ⟨w.answersA.map bh,1,3,own,true⟩,some ⟨w.answersB.map bh,1,3,own,true⟩]
attribute [go_sem] eP eQ
theorem oQ (w:WorldD) (e:EndD):aP 93 [.sc (.pt 28 0 0),.sc (.int .i64 1),.ag (e.cs 21)] (w.hp false++(e.hp false++[some ⟨[w.cs 0],61,44,true,false⟩])) (.tu [])
  (w.hp false++(e.hp false++[some ⟨[(dM { w with a:=e } 21 22 23 24 25 26 27 7 8 9 10 11 12 13 14 15 16 17 18 19 20)],61,44,true,false⟩])):=by
 refine jG func93 ntmps93 results93 fun E hE=>?_
 exact dH (qI 0 29)
theorem tT (w:WorldD) (e:EndD):aP 93 [.sc (.pt 28 0 0),.sc (.int .i64 2),.ag (e.cs 21)] (w.hp false++(e.hp false++[some ⟨[w.cs 0],61,44,true,false⟩])) (.tu [])
  (w.hp false++(e.hp false++[some ⟨[(dM { w with b:=e } 0 1 2 3 4 5 6 21 22 23 24 25 26 27 14 15 16 17 18 19 20)],61,44,true,false⟩])):=by
 refine jG func93 ntmps93 results93 fun E hE=>?_
 exact dH (qI 0 29)
theorem f6 (w:WorldD) (e:EndD):aP 114 [.ag (w.cs 0),.sc (.int .i64 1),.ag (e.cs 21)] (w.hp false++e.hp false) (.ag (dM { w with a:=e } 21 22 23 24 25 26 27 7 8 9 10 11 12 13 14 15 16 17 18 19 20)) (w.hp false++e.hp false):=by
 refine jG func114 ntmps114 results114 fun E hE=>?_
 exact dH (qI 0 28)
theorem f7 (w:WorldD) (e:EndD):aP 114 [.ag (w.cs 0),.sc (.int .i64 2),.ag (e.cs 21)] (w.hp false++e.hp false) (.ag (dM { w with b:=e } 0 1 2 3 4 5 6 21 22 23 24 25 26 27 14 15 16 17 18 19 20)) (w.hp false++e.hp false):=by
 refine jG func114 ntmps114 results114 fun E hE=>?_
 exact dH (qI 0 28)
theorem fu (w:WorldD) (n:Int) (h0:w.nums.length<=1048576):aP 165 [.ag (w.cs 0),.sc (.int .i64 n)] [some ⟨w.a.own.map AddrD.cs,4,69,false,true⟩,some ⟨w.a.far.map AddrD.cs,4,69,false,true⟩,some ⟨w.a.subs.map SubD.cs,10,58,false,true⟩,some ⟨w.a.halfs.map HalfD.cs,8,113,false,true⟩,some ⟨w.a.inp.list.map PieceD.cs,2,117,false,true⟩,some ⟨w.a.done.map bh,1,3,false,true⟩,some ⟨w.a.over.map bh,1,3,false,true⟩,some ⟨w.b.own.map AddrD.cs,4,69,false,true⟩,some ⟨w.b.far.map AddrD.cs,4,69,false,true⟩,some ⟨w.b.subs.map SubD.cs,10,58,false,true⟩,some ⟨w.b.halfs.map HalfD.cs,8,113,false,true⟩,some ⟨w.b.inp.list.map PieceD.cs,2,117,false,true⟩,some ⟨w.b.done.map bh,1,3,false,true⟩,some ⟨w.b.over.map bh,1,3,false,true⟩,some ⟨w.bag.map LetterD.cs,19,73,false,true⟩,some ⟨w.past.map LetterD.cs,19,73,false,true⟩,some ⟨w.known.keys.map bh,1,3,false,true⟩,some ⟨w.known.tags.map TagD.cs,5,71,false,true⟩,some ⟨w.nums.map bh,1,3,true,true⟩,some ⟨w.answersA.map bh,1,3,false,true⟩,some ⟨w.answersB.map bh,1,3,false,true⟩] (.ag (dM { w with nums:=dD w.nums n } 0 1 2 3 4 5 6 7 8 9 10 11 12 13 14 15 16 17 21 19 20))
  [some ⟨w.a.own.map AddrD.cs,4,69,false,true⟩,some ⟨w.a.far.map AddrD.cs,4,69,false,true⟩,some ⟨w.a.subs.map SubD.cs,10,58,false,true⟩,some ⟨w.a.halfs.map HalfD.cs,8,113,false,true⟩,some ⟨w.a.inp.list.map PieceD.cs,2,117,false,true⟩,some ⟨w.a.done.map bh,1,3,false,true⟩,some ⟨w.a.over.map bh,1,3,false,true⟩,some ⟨w.b.own.map AddrD.cs,4,69,false,true⟩,some ⟨w.b.far.map AddrD.cs,4,69,false,true⟩,some ⟨w.b.subs.map SubD.cs,10,58,false,true⟩,some ⟨w.b.halfs.map HalfD.cs,8,113,false,true⟩,some ⟨w.b.inp.list.map PieceD.cs,2,117,false,true⟩,some ⟨w.b.done.map bh,1,3,false,true⟩,some ⟨w.b.over.map bh,1,3,false,true⟩,some ⟨w.bag.map LetterD.cs,19,73,false,true⟩,some ⟨w.past.map LetterD.cs,19,73,false,true⟩,some ⟨w.known.keys.map bh,1,3,false,true⟩,some ⟨w.known.tags.map TagD.cs,5,71,false,true⟩,none,some ⟨w.answersA.map bh,1,3,false,true⟩,some ⟨w.answersB.map bh,1,3,false,true⟩,some ⟨(dD w.nums n).map bh,1,3,true,true⟩]:=by
 have hH:=gX w.nums n h0
 have ht:=F1 (l:=w.nums) (n:=n)
 have hf1:=BX (l:=w.nums) (n:=n)
 have hf2:=BY (l:=w.nums) (n:=n)
 have hf3:=BZ (l:=w.nums) (n:=n)
 generalize dD w.nums n=R at*
 refine jG func165 ntmps165 results165 fun E hE=>?_
 refine qB (fun b1=>?_) fun b1=>?_
 ·refine qB (fun b2=>?_) fun b2=>?_
  ·refine qK (hH) (qI 18 1) ?_
   refine qB (fun b3=>?_) fun b3=>?_
   ·rw [ht b1 b3 zO]
    refine qX ?_
    refine RO (qI 0 21++qI 24 1) ?_
    first|exact⟨⟩|simp [bh]
   rw [hf2 b3]
   refine qX ?_
   exact dH (qI 0 21++qI 18 1)
  rw [hf3 zO]
  refine qX ?_
  exact dH (qI 0 21++qI 18 1)
 rw [hf1 b1]
 refine qX ?_
 exact dH (qI 0 21++qI 18 1)
def kT (x:LetterD):List Int:=[x.nonce,x.give,x.sgn]
theorem xr {l:List Int} {m:List Int} {k:Nat} (h:k < l.length):(l.drop k).foldl dD m=(l.drop (k+1)).foldl dD (dD m l[k]):=by
 rw [RS h];rfl
theorem Av {l:List Int} {m:List Int} {k:Nat} (h:l.length<=k):(l.drop k).foldl dD m=m:=by
 rw [RZ h];rfl
theorem mD (w:WorldD) (l:List LetterD) (hw:SmallP2 w) (hl:l.length<=1048576):aP 94 [.sc (.pt 21 0 0),.sc (.int .i64 1),.sc (.sl 22 0 l.length)]
  (eP w false++(eQ w true++[some ⟨[w.cs 0],61,44,true,false⟩,some ⟨l.map LetterD.cs,19,73,false,true⟩])) (.tu [])
  (eP w false++((nH 7++[some ⟨[(dM (al 1 w l) 0 1 2 3 4 5 6 7 8 9 10 11 12 13 23 24 25 26 27 28 29)],61,44,true,false⟩,some ⟨l.map LetterD.cs,19,73,false,true⟩])++eQ (al 1 w l) true)):=by
 obtain⟨R,hR⟩:∃ R,R=al 1 w l:=⟨_,rfl⟩
 rw [<-hR]
 have hl2:l.length<=9223372036854775807:=zO
 refine dX func94 (by kernel_rfl) rfl fun E hE=>ae 400 ?_
 simp (disch:=omega) only [ntmps94,results94,go_sem,seval]
 refine iv 23 hE (fun s (y:Nat×WorldD)=>s.at (qU [2,1,7,1,9,1,13,145]) [(12,.sc (.int .i64 (y.1:Nat)))] (eP w false++((nH 7++[some ⟨[(dM y.2 0 1 2 3 4 5 6 7 8 9 10 11 12 13 23 24 25 26 27 28 29)],61,44,true,false⟩,some ⟨l.map LetterD.cs,19,73,false,true⟩])++(eQ y.2 true)))) (fun (y:Nat×WorldD)=>y.1<=l.length/\y.2.a=w.a/\y.2.b=w.b/\SmallP2 y.2/\R=al 1 y.2 (l.drop y.1)) (fun (y:Nat×WorldD)=>l.length - y.1) (0,w) (qI 0 23++qI 14 7) (qC) (⟨RQ _,rfl,rfl,hw,hR⟩) (ac zF zF ?_) fun y hy N hN=>?_
 ·try simp (disch:=omega) only [go_sem,seval]
 obtain⟨i,u⟩:=y
 obtain⟨hi,ha,hb,hS,hu⟩:=hy
 obtain⟨ua,ub,bag,past,wA,wB,rA,rB,known,nums,nsA,nsB⟩:=u
 obtain⟨keys,tags⟩:=known
 dsimp only at hi ha hb hu
 subst ha hb
 have s1:=hS.bag
 have s2:=hS.past
 have s3:=hS.keys
 have s4:=hS.tags
 have s5:=hS.nums
 have s6:=hS.ansA
 have s7:=hS.ansB
 dsimp only at s1 s2 s3 s4 s5 s6 s7
 refine d9 21 400 ?_
 try simp (disch:=omega) only [go_sem,seval]
 split<;>rename_i h<;>(try simp only [decide_eq_true_eq,decide_eq_false_iff_not,Sb] at h)
 rotate_left
 ·have e:i=l.length:=zO
  subst e
  rw [oO (R1 _)] at hu
  subst hu
  try simp (disch:=omega) only [go_sem,seval]
  refine cY (qI 0 30) (qC) _ (by simp only [go_sem];rfl) zF zF ?_
  simp (disch:=omega) only [go_sem,seval]
 rw [mz h] at hu
 generalize hx:l[i]=x at hu
 have hget:=aQ (enc:=LetterD.cs) h
 rw [hx] at hget
 try simp (disch:=omega) only [go_sem,seval,hget]
 obtain⟨p1,hp1⟩:∃ p,p=fm past x:=⟨_,rfl⟩
 refine eX 23 hE (fun s=>s.at (qU [13,19]) [] (eP w false++((nH 7++[some ⟨[(dM (⟨w.a,w.b,bag,p1,wA,wB,rA,rB,⟨keys,tags⟩,nums,nsA,nsB⟩:WorldD) 0 1 2 3 4 5 6 7 8 9 10 11 12 13 23 24 25 26 27 28 29)],61,44,true,false⟩,some ⟨l.map LetterD.cs,19,73,false,true⟩])++(eQ (⟨w.a,w.b,bag,p1,wA,wB,rA,rB,⟨keys,tags⟩,nums,nsA,nsB⟩:WorldD) true++[some ⟨[x.cs],19,73,true,false⟩])))) (qC) zF (fun N hN=>ae 401 ?_) (d9 34 400 ?_)
 ·try simp (disch:=omega) only [go_sem,seval]
  split<;>rename_i b1<;>(try simp only [zR] at b1)<;>simp (disch:=omega) only [go_sem,seval,b1]<;>(try simp only [zQ] at b1)<;>try simp (disch:=omega) only [go_sem,seval]
  ·rw [vD zO] at hp1
   subst hp1
   refine cD (qU [0,11]) (by kernel_rfl) (qC) (by kernel_rfl) (aa 400 ?_)
   simp (disch:=omega) only [go_sem,seval]
   refine⟨qC,d9 34 400 ?_⟩
   try simp (disch:=omega) only [go_sem,seval]
   refine⟨qC,hN _ (qI 0 24++qI 32 1++qI 25 6) (ac zF zF ?_)⟩
   simp (disch:=omega) only [go_sem,seval]
   try simp [LetterD.cs]
  rw [vE zO] at hp1
  subst hp1
  try simp (disch:=omega) only [go_sem,seval]
  refine⟨qC,hN _ (qI 0 31) (ac zF zF ?_)⟩
  simp (disch:=omega) only [go_sem,seval]
 try simp (disch:=omega) only [go_sem,seval]
 obtain⟨q1,hq1⟩:∃ q,q=ln nsA (lq 1 1 x) w.a.now:=⟨_,rfl⟩
 refine eX 23 hE (fun s=>s.at (qU [13,70]) [] (eP w false++((nH 7++[some ⟨[(dM (⟨w.a,w.b,bag,p1,wA,wB,rA,rB,⟨keys,tags⟩,nums,q1,nsB⟩:WorldD) 0 1 2 3 4 5 6 7 8 9 10 11 12 13 23 24 25 26 27 28 29)],61,44,true,false⟩,some ⟨l.map LetterD.cs,19,73,false,true⟩])++(eQ (⟨w.a,w.b,bag,p1,wA,wB,rA,rB,⟨keys,tags⟩,nums,q1,nsB⟩:WorldD) true++[some ⟨[x.cs],19,73,true,false⟩])))) (qC) zF (fun N hN=>ae 401 ?_) (ae 400 ?_)
 ·try simp (disch:=omega) only [go_sem,seval]
  split<;>rename_i b2<;>(try simp only [zR] at b2)<;>simp (disch:=omega) only [go_sem,seval,b2]<;>(try simp only [zQ] at b2)<;>try simp (disch:=omega) only [go_sem,seval]
  ·rw [B4 b2] at hq1
   split<;>rename_i b3<;>(try simp only [zR] at b3)<;>simp (disch:=omega) only [go_sem,seval,b3]<;>(try simp only [zQ] at b3)<;>try simp (disch:=omega) only [go_sem,seval]
   ·rw [B1 zO] at hq1
    subst hq1
    refine cD (qU [0,15]) (by kernel_rfl) (qC) (by kernel_rfl) (aa 400 ?_)
    simp (disch:=omega) only [go_sem,seval]
    refine⟨qC,ae 400 ?_⟩
    try simp (disch:=omega) only [go_sem,seval]
    refine⟨qC,hN _ (qI 0 28++qI 32 1++qI 29 2) (ac zF zF ?_)⟩
    simp (disch:=omega) only [go_sem,seval]
    try simp [bh]
   rw [B2 zO] at hq1
   subst hq1
   try simp (disch:=omega) only [go_sem,seval]
   refine⟨qC,hN _ (qI 0 31) (ac zF zF ?_)⟩
   simp (disch:=omega) only [go_sem,seval]
  rw [xh b2,iI] at hq1
  subst hq1
  try simp (disch:=omega) only [go_sem,seval]
  refine⟨qC,hN _ (qI 0 31) (ac zF zF ?_)⟩
  simp (disch:=omega) only [go_sem,seval]
 try simp (disch:=omega) only [go_sem,seval]
 refine aD (qC) (nB x.to) [] qM zF (ae 400 ?_)
 simp (disch:=omega) only [go_sem,seval]
 have hoth:ln nsB (lq 1 2 x) w.b.now=nsB:=by rw [tP zD,iI]
 split<;>rename_i b4<;>(try simp only [zR] at b4)<;>simp (disch:=omega) only [go_sem,seval,b4]<;>(try simp only [zQ] at b4)<;>try simp (disch:=omega) only [go_sem,seval]
 ·have hK:=xe ⟨keys,tags⟩ x.tag (by dsimp only;omega) (by dsimp only;omega)
  have hky:(eS ⟨keys,tags⟩ x.tag).keys.length<=1048576:=by rw [i8];exact s3
  have hkt:(eS ⟨keys,tags⟩ x.tag).tags.length<=1048576:=nP s4
  obtain⟨kk,hkk⟩:∃ k,k=eS ⟨keys,tags⟩ x.tag:=⟨_,rfl⟩
  rw [<-hkk] at hK hky hkt
  obtain⟨k1,t1⟩:=kk
  dsimp only at hky hkt
  refine cD (qU [0,11]) (by kernel_rfl) (qC) (by kernel_rfl) (aa 400 ?_)
  simp (disch:=omega) only [go_sem,seval]
  refine bD (qC) (hK) (qI 25 2) qM zF zF (aa 400 ?_)
  simp (disch:=omega) only [go_sem,seval]
  refine⟨qC,ae 400 ?_⟩
  try simp (disch:=omega) only [go_sem,seval]
  obtain⟨n1,hn1⟩:∃ n,n=(kT x).foldl dD nums:=⟨_,rfl⟩
  have hn1l:n1.length<=1048576:=by rw [hn1];exact fe (fe (fe s5))
  refine iv 23 hE (fun s (z:Nat×List Int)=>s.at (qU [2,1,9,1,14,7,22,12,35,9,45,23,69,14,84,20,107,33,141,17]) [(106,.sc (.int .i64 (z.1:Nat))),(104,.sc (.sl 31 0 3))] (eP w false++((nH 7++[some ⟨[(dM (⟨w.a,w.b,bag,p1,wA,wB,rA,rB,⟨k1,t1⟩,z.2,q1,nsB⟩:WorldD) 0 1 2 3 4 5 6 7 8 9 10 11 12 13 23 24 25 26 27 28 29)],61,44,true,false⟩,some ⟨l.map LetterD.cs,19,73,false,true⟩])++(eQ (⟨w.a,w.b,bag,p1,wA,wB,rA,rB,⟨k1,t1⟩,z.2,q1,nsB⟩:WorldD) true++[some ⟨[x.cs],19,73,true,false⟩]++[some ⟨[[.int .i64 x.nonce],[.int .i64 x.give],[.int .i64 x.sgn]],1,3,true,true⟩])))) (fun (z:Nat×List Int)=>z.1<=3/\z.2.length<=1048576/\n1=((kT x).drop z.1).foldl dD z.2) (fun (z:Nat×List Int)=>3 - z.1) (0,nums) (qI 0 25++qI 31 2++qI 27 4++qI 33 1) (qC) (⟨RQ _,s5,hn1⟩) (ac zF zF ?_) fun z hz N2 hN2=>?_
  ·try simp (disch:=omega) only [go_sem,seval]
  obtain⟨j,m⟩:=z
  obtain⟨hj,hm,hn⟩:=hz
  dsimp only at hj hm hn
  refine ae 400 ?_
  try simp (disch:=omega) only [go_sem,seval]
  split<;>rename_i h5<;>(try simp only [decide_eq_true_eq,decide_eq_false_iff_not,Sb] at h5)
  rotate_left
  ·have e:j=3:=zO
   subst e
   rw [Av (by simp [kT])] at hn
   subst hn
   try simp (disch:=omega) only [go_sem,seval]
   refine⟨qC,hN _ (i+1,(⟨w.a,w.b,bag,p1,wA,wB,rA,rB,⟨k1,t1⟩,n1,q1,nsB⟩:WorldD)) (qI 0 30) (⟨zO,rfl,rfl,?_,?_⟩) (by (try dsimp only);omega) (ac zF zF ?_)⟩
   ·have e:aU 1 (⟨w.a,w.b,bag,past,wA,wB,rA,rB,⟨keys,tags⟩,nums,nsA,nsB⟩:WorldD) x=(⟨w.a,w.b,bag,p1,wA,wB,rA,rB,⟨k1,t1⟩,n1,q1,nsB⟩:WorldD):=by
     rw [aU,if_pos b4,mZ,jN]
     dsimp only
     rw [<-hkk,hoth,<-hp1,<-hq1,hn1]
     rfl
    rw [<-e]
    exact eM hS
   ·have e:aU 1 (⟨w.a,w.b,bag,past,wA,wB,rA,rB,⟨keys,tags⟩,nums,nsA,nsB⟩:WorldD) x=(⟨w.a,w.b,bag,p1,wA,wB,rA,rB,⟨k1,t1⟩,n1,q1,nsB⟩:WorldD):=by
     rw [aU,if_pos b4,mZ,jN]
     dsimp only
     rw [<-hkk,hoth,<-hp1,<-hq1,hn1]
     rfl
    rw [<-e]
    exact hu
   try simp (disch:=omega) only [go_sem,seval]
  have h6:j < (kT x).length:=by simp only [kT,Sj,Ss];omega
  rw [xr h6] at hn
  generalize hv:(kT x)[j]=v at hn
  have hg3:([[.int .i64 x.nonce],[.int .i64 x.give],[.int .i64 x.sgn]]:List (List Sc))[j]? =some (bh v):=by
   rw [<-hv]
   rw [show ([[.int .i64 x.nonce],[.int .i64 x.give],[.int .i64 x.sgn]]:List (List Sc))=(kT x).map bh from rfl]
   exact aQ h6
  simp only [bh] at hg3
  have hH:=jp m v hm
  have ht:=F1 (l:=m) (n:=v)
  have hf1:=BX (l:=m) (n:=v)
  have hf2:=BY (l:=m) (n:=v)
  have hf3:=BZ (l:=m) (n:=v)
  have hvl:(dD m v).length<=1048576:=fe hm
  generalize dD m v=m1 at*
  try simp (disch:=omega) only [go_sem,seval,hg3]
  split<;>rename_i c1<;>(try simp only [zR] at c1)<;>simp (disch:=omega) only [go_sem,seval,c1]<;>(try simp only [zQ] at c1)<;>try simp (disch:=omega) only [go_sem,seval]
  ·refine aD (qC) (hH) (qI 27 1) qM zF (ae 400 ?_)
   simp (disch:=omega) only [go_sem,seval]
   split<;>rename_i c2<;>(try simp only [zR] at c2)<;>simp (disch:=omega) only [go_sem,seval,c2]<;>(try simp only [zQ] at c2)<;>try simp (disch:=omega) only [go_sem,seval]
   ·split<;>rename_i c3<;>(try simp only [zR] at c3)<;>simp (disch:=omega) only [go_sem,seval,c3]<;>(try simp only [zQ] at c3)<;>try simp (disch:=omega) only [go_sem,seval]
    ·have e:=ht c1 c2 zO
     subst e
     try simp (disch:=omega) only [go_sem,seval]
     refine⟨qC,hN2 _ (j+1,m++[v]) (qI 0 27++qI 33 1++qI 28 4) (by (try dsimp only);exact⟨zO,hvl,hn⟩) (by (try dsimp only);omega) (ac zF zF ?_)⟩
     try simp (disch:=omega) only [go_sem,seval]
     try simp [bh]
    have e:=hf3 zO
    subst e
    try simp (disch:=omega) only [go_sem,seval]
    refine⟨qC,hN2 _ (j+1,m1) (qI 0 32) (by (try dsimp only);exact⟨zO,hm,hn⟩) (by (try dsimp only);omega) (ac zF zF ?_)⟩
    try simp (disch:=omega) only [go_sem,seval]
   have e:=hf2 c2
   subst e
   try simp (disch:=omega) only [go_sem,seval]
   refine⟨qC,hN2 _ (j+1,m1) (qI 0 32) (by (try dsimp only);exact⟨zO,hm,hn⟩) (by (try dsimp only);omega) (ac zF zF ?_)⟩
   try simp (disch:=omega) only [go_sem,seval]
  have e:=hf1 c1
  subst e
  try simp (disch:=omega) only [go_sem,seval]
  refine⟨qC,hN2 _ (j+1,m1) (qI 0 32) (by (try dsimp only);exact⟨zO,hm,hn⟩) (by (try dsimp only);omega) (ac zF zF ?_)⟩
  try simp (disch:=omega) only [go_sem,seval]
 obtain⟨g1,hg1⟩:∃ g,g=pm bag x:=⟨_,rfl⟩
 have e:aU 1 (⟨w.a,w.b,bag,past,wA,wB,rA,rB,⟨keys,tags⟩,nums,nsA,nsB⟩:WorldD) x=(⟨w.a,w.b,g1,p1,wA,wB,rA,rB,⟨keys,tags⟩,nums,q1,nsB⟩:WorldD):=by
  rw [aU,if_neg b4,jN]
  dsimp only
  rw [hoth,<-hp1,<-hq1,<-hg1]
 rw [e] at hu
 have hS1:=eM (side:=1) (x:=x) hS
 rw [e] at hS1
 split<;>rename_i b5<;>(try simp only [zR] at b5)<;>simp (disch:=omega) only [go_sem,seval,b5]<;>(try simp only [zQ] at b5)<;>try simp (disch:=omega) only [go_sem,seval]
 ·rw [xg zO] at hg1
  subst hg1
  refine cD (qU [0,11]) (by kernel_rfl) (qC) (by kernel_rfl) (aa 400 ?_)
  simp (disch:=omega) only [go_sem,seval]
  refine⟨qC,ae 400 ?_⟩
  try simp (disch:=omega) only [go_sem,seval]
  refine⟨qC,hN _ (i+1,(⟨w.a,w.b,(bag++[x]),p1,wA,wB,rA,rB,⟨keys,tags⟩,nums,q1,nsB⟩:WorldD)) (qI 0 23++qI 32 1++qI 24 6) (by (try dsimp only);exact⟨zO,rfl,rfl,hS1,hu⟩) (by (try dsimp only);omega) (ac zF zF ?_)⟩
  try simp (disch:=omega) only [go_sem,seval]
  try simp [LetterD.cs]
 rw [B0 zO] at hg1
 subst hg1
 try simp (disch:=omega) only [go_sem,seval]
 refine⟨qC,hN _ (i+1,(⟨w.a,w.b,g1,p1,wA,wB,rA,rB,⟨keys,tags⟩,nums,q1,nsB⟩:WorldD)) (qI 0 30) (by (try dsimp only);exact⟨zO,rfl,rfl,hS1,hu⟩) (by (try dsimp only);omega) (ac zF zF ?_)⟩
 try simp (disch:=omega) only [go_sem,seval]
theorem qx (w:WorldD) (l:List LetterD) (hw:SmallP2 w) (hl:l.length<=1048576):aP 94 [.sc (.pt 21 0 0),.sc (.int .i64 2),.sc (.sl 22 0 l.length)]
  (eP w false++(eQ w true++[some ⟨[w.cs 0],61,44,true,false⟩,some ⟨l.map LetterD.cs,19,73,false,true⟩])) (.tu [])
  (eP w false++((nH 7++[some ⟨[(dM (al 2 w l) 0 1 2 3 4 5 6 7 8 9 10 11 12 13 23 24 25 26 27 28 29)],61,44,true,false⟩,some ⟨l.map LetterD.cs,19,73,false,true⟩])++eQ (al 2 w l) true)):=by
 obtain⟨R,hR⟩:∃ R,R=al 2 w l:=⟨_,rfl⟩
 rw [<-hR]
 have hl2:l.length<=9223372036854775807:=zO
 refine dX func94 (by kernel_rfl) rfl fun E hE=>ae 400 ?_
 simp (disch:=omega) only [ntmps94,results94,go_sem,seval]
 refine iv 23 hE (fun s (y:Nat×WorldD)=>s.at (qU [2,1,7,1,9,1,13,145]) [(12,.sc (.int .i64 (y.1:Nat)))] (eP w false++((nH 7++[some ⟨[(dM y.2 0 1 2 3 4 5 6 7 8 9 10 11 12 13 23 24 25 26 27 28 29)],61,44,true,false⟩,some ⟨l.map LetterD.cs,19,73,false,true⟩])++(eQ y.2 true)))) (fun (y:Nat×WorldD)=>y.1<=l.length/\y.2.a=w.a/\y.2.b=w.b/\SmallP2 y.2/\R=al 2 y.2 (l.drop y.1)) (fun (y:Nat×WorldD)=>l.length - y.1) (0,w) (qI 0 23++qI 14 7) (qC) (⟨RQ _,rfl,rfl,hw,hR⟩) (ac zF zF ?_) fun y hy N hN=>?_
 ·try simp (disch:=omega) only [go_sem,seval]
 obtain⟨i,u⟩:=y
 obtain⟨hi,ha,hb,hS,hu⟩:=hy
 obtain⟨ua,ub,bag,past,wA,wB,rA,rB,known,nums,nsA,nsB⟩:=u
 obtain⟨keys,tags⟩:=known
 dsimp only at hi ha hb hu
 subst ha hb
 have s1:=hS.bag
 have s2:=hS.past
 have s3:=hS.keys
 have s4:=hS.tags
 have s5:=hS.nums
 have s6:=hS.ansA
 have s7:=hS.ansB
 dsimp only at s1 s2 s3 s4 s5 s6 s7
 refine d9 21 400 ?_
 try simp (disch:=omega) only [go_sem,seval]
 split<;>rename_i h<;>(try simp only [decide_eq_true_eq,decide_eq_false_iff_not,Sb] at h)
 rotate_left
 ·have e:i=l.length:=zO
  subst e
  rw [oO (R1 _)] at hu
  subst hu
  try simp (disch:=omega) only [go_sem,seval]
  refine cY (qI 0 30) (qC) _ (by simp only [go_sem];rfl) zF zF ?_
  simp (disch:=omega) only [go_sem,seval]
 rw [mz h] at hu
 generalize hx:l[i]=x at hu
 have hget:=aQ (enc:=LetterD.cs) h
 rw [hx] at hget
 try simp (disch:=omega) only [go_sem,seval,hget]
 obtain⟨p1,hp1⟩:∃ p,p=fm past x:=⟨_,rfl⟩
 refine eX 23 hE (fun s=>s.at (qU [13,19]) [] (eP w false++((nH 7++[some ⟨[(dM (⟨w.a,w.b,bag,p1,wA,wB,rA,rB,⟨keys,tags⟩,nums,nsA,nsB⟩:WorldD) 0 1 2 3 4 5 6 7 8 9 10 11 12 13 23 24 25 26 27 28 29)],61,44,true,false⟩,some ⟨l.map LetterD.cs,19,73,false,true⟩])++(eQ (⟨w.a,w.b,bag,p1,wA,wB,rA,rB,⟨keys,tags⟩,nums,nsA,nsB⟩:WorldD) true++[some ⟨[x.cs],19,73,true,false⟩])))) (qC) zF (fun N hN=>ae 401 ?_) (d9 34 400 ?_)
 ·try simp (disch:=omega) only [go_sem,seval]
  split<;>rename_i b1<;>(try simp only [zR] at b1)<;>simp (disch:=omega) only [go_sem,seval,b1]<;>(try simp only [zQ] at b1)<;>try simp (disch:=omega) only [go_sem,seval]
  ·rw [vD zO] at hp1
   subst hp1
   refine cD (qU [0,11]) (by kernel_rfl) (qC) (by kernel_rfl) (aa 400 ?_)
   simp (disch:=omega) only [go_sem,seval]
   refine⟨qC,d9 34 400 ?_⟩
   try simp (disch:=omega) only [go_sem,seval]
   refine⟨qC,hN _ (qI 0 24++qI 32 1++qI 25 6) (ac zF zF ?_)⟩
   simp (disch:=omega) only [go_sem,seval]
   try simp [LetterD.cs]
  rw [vE zO] at hp1
  subst hp1
  try simp (disch:=omega) only [go_sem,seval]
  refine⟨qC,hN _ (qI 0 31) (ac zF zF ?_)⟩
  simp (disch:=omega) only [go_sem,seval]
 try simp (disch:=omega) only [go_sem,seval]
 obtain⟨q1,hq1⟩:∃ q,q=ln nsB (lq 2 2 x) w.b.now:=⟨_,rfl⟩
 refine eX 23 hE (fun s=>s.at (qU [13,70]) [] (eP w false++((nH 7++[some ⟨[(dM (⟨w.a,w.b,bag,p1,wA,wB,rA,rB,⟨keys,tags⟩,nums,nsA,q1⟩:WorldD) 0 1 2 3 4 5 6 7 8 9 10 11 12 13 23 24 25 26 27 28 29)],61,44,true,false⟩,some ⟨l.map LetterD.cs,19,73,false,true⟩])++(eQ (⟨w.a,w.b,bag,p1,wA,wB,rA,rB,⟨keys,tags⟩,nums,nsA,q1⟩:WorldD) true++[some ⟨[x.cs],19,73,true,false⟩])))) (qC) zF (fun N hN=>ae 401 ?_) (ae 400 ?_)
 ·try simp (disch:=omega) only [go_sem,seval]
  split<;>rename_i b2<;>(try simp only [zR] at b2)<;>simp (disch:=omega) only [go_sem,seval,b2]<;>(try simp only [zQ] at b2)<;>try simp (disch:=omega) only [go_sem,seval]
  ·rw [B4 b2] at hq1
   split<;>rename_i b3<;>(try simp only [zR] at b3)<;>simp (disch:=omega) only [go_sem,seval,b3]<;>(try simp only [zQ] at b3)<;>try simp (disch:=omega) only [go_sem,seval]
   ·rw [B1 zO] at hq1
    subst hq1
    refine cD (qU [0,15]) (by kernel_rfl) (qC) (by kernel_rfl) (aa 400 ?_)
    simp (disch:=omega) only [go_sem,seval]
    refine⟨qC,ae 400 ?_⟩
    try simp (disch:=omega) only [go_sem,seval]
    refine⟨qC,hN _ (qI 0 29++qI 32 1++qI 30 1) (ac zF zF ?_)⟩
    simp (disch:=omega) only [go_sem,seval]
    try simp [bh]
   rw [B2 zO] at hq1
   subst hq1
   try simp (disch:=omega) only [go_sem,seval]
   refine⟨qC,hN _ (qI 0 31) (ac zF zF ?_)⟩
   simp (disch:=omega) only [go_sem,seval]
  rw [xh b2,iI] at hq1
  subst hq1
  try simp (disch:=omega) only [go_sem,seval]
  refine⟨qC,hN _ (qI 0 31) (ac zF zF ?_)⟩
  simp (disch:=omega) only [go_sem,seval]
 try simp (disch:=omega) only [go_sem,seval]
 refine aD (qC) (nB x.to) [] qM zF (ae 400 ?_)
 simp (disch:=omega) only [go_sem,seval]
 have hoth:ln nsA (lq 2 1 x) w.a.now=nsA:=by rw [tP zD,iI]
 split<;>rename_i b4<;>(try simp only [zR] at b4)<;>simp (disch:=omega) only [go_sem,seval,b4]<;>(try simp only [zQ] at b4)<;>try simp (disch:=omega) only [go_sem,seval]
 ·have hK:=xe ⟨keys,tags⟩ x.tag (by dsimp only;omega) (by dsimp only;omega)
  have hky:(eS ⟨keys,tags⟩ x.tag).keys.length<=1048576:=by rw [i8];exact s3
  have hkt:(eS ⟨keys,tags⟩ x.tag).tags.length<=1048576:=nP s4
  obtain⟨kk,hkk⟩:∃ k,k=eS ⟨keys,tags⟩ x.tag:=⟨_,rfl⟩
  rw [<-hkk] at hK hky hkt
  obtain⟨k1,t1⟩:=kk
  dsimp only at hky hkt
  refine cD (qU [0,11]) (by kernel_rfl) (qC) (by kernel_rfl) (aa 400 ?_)
  simp (disch:=omega) only [go_sem,seval]
  refine bD (qC) (hK) (qI 25 2) qM zF zF (aa 400 ?_)
  simp (disch:=omega) only [go_sem,seval]
  refine⟨qC,ae 400 ?_⟩
  try simp (disch:=omega) only [go_sem,seval]
  obtain⟨n1,hn1⟩:∃ n,n=(kT x).foldl dD nums:=⟨_,rfl⟩
  have hn1l:n1.length<=1048576:=by rw [hn1];exact fe (fe (fe s5))
  refine iv 23 hE (fun s (z:Nat×List Int)=>s.at (qU [2,1,9,1,14,7,22,12,35,9,45,23,69,14,84,20,107,33,141,17]) [(106,.sc (.int .i64 (z.1:Nat))),(104,.sc (.sl 31 0 3))] (eP w false++((nH 7++[some ⟨[(dM (⟨w.a,w.b,bag,p1,wA,wB,rA,rB,⟨k1,t1⟩,z.2,nsA,q1⟩:WorldD) 0 1 2 3 4 5 6 7 8 9 10 11 12 13 23 24 25 26 27 28 29)],61,44,true,false⟩,some ⟨l.map LetterD.cs,19,73,false,true⟩])++(eQ (⟨w.a,w.b,bag,p1,wA,wB,rA,rB,⟨k1,t1⟩,z.2,nsA,q1⟩:WorldD) true++[some ⟨[x.cs],19,73,true,false⟩]++[some ⟨[[.int .i64 x.nonce],[.int .i64 x.give],[.int .i64 x.sgn]],1,3,true,true⟩])))) (fun (z:Nat×List Int)=>z.1<=3/\z.2.length<=1048576/\n1=((kT x).drop z.1).foldl dD z.2) (fun (z:Nat×List Int)=>3 - z.1) (0,nums) (qI 0 25++qI 31 2++qI 27 4++qI 33 1) (qC) (⟨RQ _,s5,hn1⟩) (ac zF zF ?_) fun z hz N2 hN2=>?_
  ·try simp (disch:=omega) only [go_sem,seval]
  obtain⟨j,m⟩:=z
  obtain⟨hj,hm,hn⟩:=hz
  dsimp only at hj hm hn
  refine ae 400 ?_
  try simp (disch:=omega) only [go_sem,seval]
  split<;>rename_i h5<;>(try simp only [decide_eq_true_eq,decide_eq_false_iff_not,Sb] at h5)
  rotate_left
  ·have e:j=3:=zO
   subst e
   rw [Av (by simp [kT])] at hn
   subst hn
   try simp (disch:=omega) only [go_sem,seval]
   refine⟨qC,hN _ (i+1,(⟨w.a,w.b,bag,p1,wA,wB,rA,rB,⟨k1,t1⟩,n1,nsA,q1⟩:WorldD)) (qI 0 30) (⟨zO,rfl,rfl,?_,?_⟩) (by (try dsimp only);omega) (ac zF zF ?_)⟩
   ·have e:aU 2 (⟨w.a,w.b,bag,past,wA,wB,rA,rB,⟨keys,tags⟩,nums,nsA,nsB⟩:WorldD) x=(⟨w.a,w.b,bag,p1,wA,wB,rA,rB,⟨k1,t1⟩,n1,nsA,q1⟩:WorldD):=by
     rw [aU,if_pos b4,mZ,jN]
     dsimp only
     rw [<-hkk,hoth,<-hp1,<-hq1,hn1]
     rfl
    rw [<-e]
    exact eM hS
   ·have e:aU 2 (⟨w.a,w.b,bag,past,wA,wB,rA,rB,⟨keys,tags⟩,nums,nsA,nsB⟩:WorldD) x=(⟨w.a,w.b,bag,p1,wA,wB,rA,rB,⟨k1,t1⟩,n1,nsA,q1⟩:WorldD):=by
     rw [aU,if_pos b4,mZ,jN]
     dsimp only
     rw [<-hkk,hoth,<-hp1,<-hq1,hn1]
     rfl
    rw [<-e]
    exact hu
   try simp (disch:=omega) only [go_sem,seval]
  have h6:j < (kT x).length:=by simp only [kT,Sj,Ss];omega
  rw [xr h6] at hn
  generalize hv:(kT x)[j]=v at hn
  have hg3:([[.int .i64 x.nonce],[.int .i64 x.give],[.int .i64 x.sgn]]:List (List Sc))[j]? =some (bh v):=by
   rw [<-hv]
   rw [show ([[.int .i64 x.nonce],[.int .i64 x.give],[.int .i64 x.sgn]]:List (List Sc))=(kT x).map bh from rfl]
   exact aQ h6
  simp only [bh] at hg3
  have hH:=jp m v hm
  have ht:=F1 (l:=m) (n:=v)
  have hf1:=BX (l:=m) (n:=v)
  have hf2:=BY (l:=m) (n:=v)
  have hf3:=BZ (l:=m) (n:=v)
  have hvl:(dD m v).length<=1048576:=fe hm
  generalize dD m v=m1 at*
  try simp (disch:=omega) only [go_sem,seval,hg3]
  split<;>rename_i c1<;>(try simp only [zR] at c1)<;>simp (disch:=omega) only [go_sem,seval,c1]<;>(try simp only [zQ] at c1)<;>try simp (disch:=omega) only [go_sem,seval]
  ·refine aD (qC) (hH) (qI 27 1) qM zF (ae 400 ?_)
   simp (disch:=omega) only [go_sem,seval]
   split<;>rename_i c2<;>(try simp only [zR] at c2)<;>simp (disch:=omega) only [go_sem,seval,c2]<;>(try simp only [zQ] at c2)<;>try simp (disch:=omega) only [go_sem,seval]
   ·split<;>rename_i c3<;>(try simp only [zR] at c3)<;>simp (disch:=omega) only [go_sem,seval,c3]<;>(try simp only [zQ] at c3)<;>try simp (disch:=omega) only [go_sem,seval]
    ·have e:=ht c1 c2 zO
     subst e
     try simp (disch:=omega) only [go_sem,seval]
     refine⟨qC,hN2 _ (j+1,m++[v]) (qI 0 27++qI 33 1++qI 28 4) (by (try dsimp only);exact⟨zO,hvl,hn⟩) (by (try dsimp only);omega) (ac zF zF ?_)⟩
     try simp (disch:=omega) only [go_sem,seval]
     try simp [bh]
    have e:=hf3 zO
    subst e
    try simp (disch:=omega) only [go_sem,seval]
    refine⟨qC,hN2 _ (j+1,m1) (qI 0 32) (by (try dsimp only);exact⟨zO,hm,hn⟩) (by (try dsimp only);omega) (ac zF zF ?_)⟩
    try simp (disch:=omega) only [go_sem,seval]
   have e:=hf2 c2
   subst e
   try simp (disch:=omega) only [go_sem,seval]
   refine⟨qC,hN2 _ (j+1,m1) (qI 0 32) (by (try dsimp only);exact⟨zO,hm,hn⟩) (by (try dsimp only);omega) (ac zF zF ?_)⟩
   try simp (disch:=omega) only [go_sem,seval]
  have e:=hf1 c1
  subst e
  try simp (disch:=omega) only [go_sem,seval]
  refine⟨qC,hN2 _ (j+1,m1) (qI 0 32) (by (try dsimp only);exact⟨zO,hm,hn⟩) (by (try dsimp only);omega) (ac zF zF ?_)⟩
  try simp (disch:=omega) only [go_sem,seval]
 obtain⟨g1,hg1⟩:∃ g,g=pm bag x:=⟨_,rfl⟩
 have e:aU 2 (⟨w.a,w.b,bag,past,wA,wB,rA,rB,⟨keys,tags⟩,nums,nsA,nsB⟩:WorldD) x=(⟨w.a,w.b,g1,p1,wA,wB,rA,rB,⟨keys,tags⟩,nums,nsA,q1⟩:WorldD):=by
  rw [aU,if_neg b4,jN]
  dsimp only
  rw [hoth,<-hp1,<-hq1,<-hg1]
 rw [e] at hu
 have hS1:=eM (side:=2) (x:=x) hS
 rw [e] at hS1
 split<;>rename_i b5<;>(try simp only [zR] at b5)<;>simp (disch:=omega) only [go_sem,seval,b5]<;>(try simp only [zQ] at b5)<;>try simp (disch:=omega) only [go_sem,seval]
 ·rw [xg zO] at hg1
  subst hg1
  refine cD (qU [0,11]) (by kernel_rfl) (qC) (by kernel_rfl) (aa 400 ?_)
  simp (disch:=omega) only [go_sem,seval]
  refine⟨qC,ae 400 ?_⟩
  try simp (disch:=omega) only [go_sem,seval]
  refine⟨qC,hN _ (i+1,(⟨w.a,w.b,(bag++[x]),p1,wA,wB,rA,rB,⟨keys,tags⟩,nums,nsA,q1⟩:WorldD)) (qI 0 23++qI 32 1++qI 24 6) (by (try dsimp only);exact⟨zO,rfl,rfl,hS1,hu⟩) (by (try dsimp only);omega) (ac zF zF ?_)⟩
  try simp (disch:=omega) only [go_sem,seval]
  try simp [LetterD.cs]
 rw [B0 zO] at hg1
 subst hg1
 try simp (disch:=omega) only [go_sem,seval]
 refine⟨qC,hN _ (i+1,(⟨w.a,w.b,g1,p1,wA,wB,rA,rB,⟨keys,tags⟩,nums,nsA,q1⟩:WorldD)) (qI 0 30) (by (try dsimp only);exact⟨zO,rfl,rfl,hS1,hu⟩) (by (try dsimp only);omega) (ac zF zF ?_)⟩
 try simp (disch:=omega) only [go_sem,seval]
theorem f8 (w:WorldD) (l:List LetterD) (hw:SmallW w) (hl:l.length<=1048576):aP 113 [.ag (w.cs 0),.sc (.int .i64 1),.sc (.sl 21 0 l.length)]
  (w.hp false++[some ⟨l.map LetterD.cs,19,73,false,true⟩]) (.ag ((al 1 w l).cs 22)) (w.hp false++([some ⟨l.map LetterD.cs,19,73,false,true⟩]++(al 1 w l).hp true)):=by
 obtain⟨R,hR⟩:∃ R,R=al 1 w l:=⟨_,rfl⟩
 rw [<-hR]
 have hl2:l.length<=9223372036854775807:=zO
 have hC:=jU w hw
 refine dX func113 (by kernel_rfl) rfl fun E hE=>ae 400 ?_
 simp (disch:=omega) only [ntmps113,results113,go_sem,seval]
 refine aD (qC) (hC) (qI 0 21) qM zF (ae 400 ?_)
 simp (disch:=omega) only [go_sem,seval]
 refine iv 22 hE (fun s (y:Nat×WorldD)=>s.at (qU [0,1,8,105]) [(7,.sc (.int .i64 (y.1:Nat)))] (((s.hp.take 24).set 22 (some ⟨[(dM y.2 24 25 26 27 28 29 30 31 32 33 34 35 36 37 38 39 40 41 42 43 44)],61,44,true,false⟩))++(eP w true++(eQ y.2 true)))) (fun (y:Nat×WorldD)=>y.1<=l.length/\y.2.a=w.a/\y.2.b=w.b/\SmallP2 y.2/\R=al 1 y.2 (l.drop y.1)) (fun (y:Nat×WorldD)=>l.length - y.1) (0,w) (qI 0 45) (qC) (⟨RQ _,rfl,rfl,hw.rest,hR⟩) (ac zF zF ?_) fun y hy N hN=>?_
 ·try simp (disch:=omega) only [go_sem,seval]
 obtain⟨i,u⟩:=y
 obtain⟨hi,ha,hb,hS,hu⟩:=hy
 obtain⟨ua,ub,bag,past,wA,wB,rA,rB,known,nums,nsA,nsB⟩:=u
 obtain⟨keys,tags⟩:=known
 dsimp only at hi ha hb hu
 subst ha hb
 have s1:=hS.bag
 have s2:=hS.past
 have s3:=hS.keys
 have s4:=hS.tags
 have s5:=hS.nums
 have s6:=hS.ansA
 have s7:=hS.ansB
 dsimp only at s1 s2 s3 s4 s5 s6 s7
 refine d9 1006 400 ?_
 try simp (disch:=omega) only [go_sem,seval]
 split<;>rename_i h<;>(try simp only [decide_eq_true_eq,decide_eq_false_iff_not,Sb] at h)
 rotate_left
 ·have e:i=l.length:=zO
  subst e
  rw [oO (R1 _)] at hu
  subst hu
  try simp (disch:=omega) only [go_sem,seval]
  refine cY (qI 0 22++qI 24 21) (qC) _ (by simp only [go_sem];rfl) zF zF ?_
  simp (disch:=omega) only [go_sem,seval]
 rw [mz h] at hu
 generalize hx:l[i]=x at hu
 have hget:=aQ (enc:=LetterD.cs) h
 rw [hx] at hget
 try simp (disch:=omega) only [go_sem,seval,hget]
 obtain⟨p1,hp1⟩:∃ p,p=fm past x:=⟨_,rfl⟩
 refine eX 22 hE (fun s=>s.at (qU [9,14,25,14]) [] (((s.hp.take 24).set 22 (some ⟨[(dM (⟨w.a,w.b,bag,p1,wA,wB,rA,rB,⟨keys,tags⟩,nums,nsA,nsB⟩:WorldD) 24 25 26 27 28 29 30 31 32 33 34 35 36 37 38 39 40 41 42 43 44)],61,44,true,false⟩))++(eP w true++(eQ (⟨w.a,w.b,bag,p1,wA,wB,rA,rB,⟨keys,tags⟩,nums,nsA,nsB⟩:WorldD) true++[some ⟨[x.cs],19,73,true,false⟩])))) (qC) zF (fun N hN=>ae 401 ?_) (d9 1008 400 ?_)
 ·try simp (disch:=omega) only [go_sem,seval]
  split<;>rename_i b1<;>(try simp only [zR] at b1)<;>simp (disch:=omega) only [go_sem,seval,b1]<;>(try simp only [zQ] at b1)<;>try simp (disch:=omega) only [go_sem,seval]
  ·rw [vD zO] at hp1
   subst hp1
   try simp (disch:=omega) only [go_sem,seval]
   refine⟨qC,hN _ (qI 0 39++qI 47 1++qI 40 6) (ac zF zF ?_)⟩
   simp (disch:=omega) only [go_sem,seval]
   try simp [LetterD.cs]
  rw [vE zO] at hp1
  subst hp1
  try simp (disch:=omega) only [go_sem,seval]
  refine⟨qC,hN _ (qI 0 46) (ac zF zF ?_)⟩
  simp (disch:=omega) only [go_sem,seval]
 try simp (disch:=omega) only [go_sem,seval]
 obtain⟨q1,hq1⟩:∃ q,q=ln nsA (lq 1 1 x) w.a.now:=⟨_,rfl⟩
 refine eX 22 hE (fun s=>s.at (qU [9,14,25,35]) [] (((s.hp.take 24).set 22 (some ⟨[(dM (⟨w.a,w.b,bag,p1,wA,wB,rA,rB,⟨keys,tags⟩,nums,q1,nsB⟩:WorldD) 24 25 26 27 28 29 30 31 32 33 34 35 36 37 38 39 40 41 42 43 44)],61,44,true,false⟩))++(eP w true++(eQ (⟨w.a,w.b,bag,p1,wA,wB,rA,rB,⟨keys,tags⟩,nums,q1,nsB⟩:WorldD) true++[some ⟨[x.cs],19,73,true,false⟩])))) (qC) zF (fun N hN=>ae 401 ?_) (d9 1010 400 ?_)
 ·try simp (disch:=omega) only [go_sem,seval]
  split<;>rename_i b2<;>(try simp only [zR] at b2)<;>simp (disch:=omega) only [go_sem,seval,b2]<;>(try simp only [zQ] at b2)<;>try simp (disch:=omega) only [go_sem,seval]
  ·rw [B4 b2] at hq1
   split<;>rename_i b3<;>(try simp only [zR] at b3)<;>simp (disch:=omega) only [go_sem,seval,b3]<;>(try simp only [zQ] at b3)<;>try simp (disch:=omega) only [go_sem,seval]
   ·rw [B1 zO] at hq1
    subst hq1
    try simp (disch:=omega) only [go_sem,seval]
    refine⟨qC,hN _ (qI 0 43++qI 47 1++qI 44 2) (ac zF zF ?_)⟩
    simp (disch:=omega) only [go_sem,seval]
    try simp [bh]
   rw [B2 zO] at hq1
   subst hq1
   try simp (disch:=omega) only [go_sem,seval]
   refine⟨qC,hN _ (qI 0 46) (ac zF zF ?_)⟩
   simp (disch:=omega) only [go_sem,seval]
  rw [xh b2,iI] at hq1
  subst hq1
  try simp (disch:=omega) only [go_sem,seval]
  refine⟨qC,hN _ (qI 0 46) (ac zF zF ?_)⟩
  simp (disch:=omega) only [go_sem,seval]
 try simp (disch:=omega) only [go_sem,seval]
 refine eX 22 hE (fun s=>s.at (qU [9,14,25,56]) [] (((s.hp.take 24).set 22 (some ⟨[(dM (⟨w.a,w.b,bag,p1,wA,wB,rA,rB,⟨keys,tags⟩,nums,q1,nsB⟩:WorldD) 24 25 26 27 28 29 30 31 32 33 34 35 36 37 38 39 40 41 42 43 44)],61,44,true,false⟩))++(eP w true++(eQ (⟨w.a,w.b,bag,p1,wA,wB,rA,rB,⟨keys,tags⟩,nums,q1,nsB⟩:WorldD) true++[some ⟨[x.cs],19,73,true,false⟩])))) (qC) zF (fun N hN=>ae 401 ?_) (ae 400 ?_)
 ·try simp (disch:=omega) only [go_sem,seval]
  split<;>rename_i b6<;>(try simp only [zR] at b6)<;>simp (disch:=omega) only [go_sem,seval,b6]<;>(try simp only [zQ] at b6)<;>try simp (disch:=omega) only [go_sem,seval]
  ·try simp (disch:=omega) only [go_sem,seval]
   refine⟨qC,hN _ (qI 0 46) (ac zF zF ?_)⟩
   simp (disch:=omega) only [go_sem,seval]
  try simp (disch:=omega) only [go_sem,seval]
  refine⟨qC,hN _ (qI 0 46) (ac zF zF ?_)⟩
  simp (disch:=omega) only [go_sem,seval]
 try simp (disch:=omega) only [go_sem,seval]
 refine aD (qC) (eI x.to) [] qM zF (ae 400 ?_)
 simp (disch:=omega) only [go_sem,seval]
 have hoth:ln nsB (lq 1 2 x) w.b.now=nsB:=by rw [tP zD,iI]
 split<;>rename_i b4<;>(try simp only [zR] at b4)<;>simp (disch:=omega) only [go_sem,seval,b4]<;>(try simp only [zQ] at b4)<;>try simp (disch:=omega) only [go_sem,seval]
 ·have hK:=xf ⟨keys,tags⟩ x.tag (by dsimp only;omega) (by dsimp only;omega)
  have hky:(eS ⟨keys,tags⟩ x.tag).keys.length<=1048576:=by rw [i8];exact s3
  have hkt:(eS ⟨keys,tags⟩ x.tag).tags.length<=1048576:=nP s4
  obtain⟨kk,hkk⟩:∃ k,k=eS ⟨keys,tags⟩ x.tag:=⟨_,rfl⟩
  rw [<-hkk] at hK hky hkt
  obtain⟨k1,t1⟩:=kk
  dsimp only at hky hkt
  have t5a:(dD nums x.nonce).length<=1048576:=fe s5
  have t5b:(dD (dD nums x.nonce) x.give).length<=1048576:=fe t5a
  have hh1:=fu (⟨w.a,w.b,bag,p1,wA,wB,rA,rB,⟨k1,t1⟩,nums,q1,nsB⟩:WorldD) x.nonce (by dsimp only;omega)
  have hh2:=fu (⟨w.a,w.b,bag,p1,wA,wB,rA,rB,⟨k1,t1⟩,(dD nums x.nonce),q1,nsB⟩:WorldD) x.give (by dsimp only;omega)
  have hh3:=fu (⟨w.a,w.b,bag,p1,wA,wB,rA,rB,⟨k1,t1⟩,(dD (dD nums x.nonce) x.give),q1,nsB⟩:WorldD) x.sgn (by dsimp only;omega)
  dsimp only at hh1 hh2 hh3
  have e:aU 1 (⟨w.a,w.b,bag,past,wA,wB,rA,rB,⟨keys,tags⟩,nums,nsA,nsB⟩:WorldD) x=(⟨w.a,w.b,bag,p1,wA,wB,rA,rB,⟨k1,t1⟩,(dD (dD (dD nums x.nonce) x.give) x.sgn),q1,nsB⟩:WorldD):=by
   rw [aU,if_pos b4,mZ,jN]
   dsimp only
   rw [<-hkk,hoth,<-hp1,<-hq1]
  rw [e] at hu
  have hS1:=eM (side:=1) (x:=x) hS
  rw [e] at hS1
  generalize dD nums x.nonce=m1 at*
  generalize dD m1 x.give=m2 at*
  generalize dD m2 x.sgn=m3 at*
  try simp (disch:=omega) only [go_sem,seval]
  refine aD (qC) (hK) (qI 40 2) qM zF (ae 400 ?_)
  simp (disch:=omega) only [go_sem,seval]
  refine aD (qC) (hh1) (qI 24 16++qI 46 2++qI 42 3) qM zF (ae 400 ?_)
  simp (disch:=omega) only [go_sem,seval]
  refine aD (qC) (hh2) (qI 24 16++qI 46 3++qI 43 2) qM zF (ae 400 ?_)
  simp (disch:=omega) only [go_sem,seval]
  refine aD (qC) (hh3) (qI 24 16++qI 46 2++qI 49 1++qI 43 2) qM zF (ae 400 ?_)
  simp (disch:=omega) only [go_sem,seval]
  refine⟨qC,hN _ (i+1,(⟨w.a,w.b,bag,p1,wA,wB,rA,rB,⟨k1,t1⟩,m3,q1,nsB⟩:WorldD)) (qI 0 40++qI 46 2++qI 50 1++qI 43 2) (by (try dsimp only);exact⟨zO,rfl,rfl,hS1,hu⟩) (by (try dsimp only);omega) (ac zF zF ?_)⟩
  try simp (disch:=omega) only [go_sem,seval]
 obtain⟨g1,hg1⟩:∃ g,g=pm bag x:=⟨_,rfl⟩
 have e:aU 1 (⟨w.a,w.b,bag,past,wA,wB,rA,rB,⟨keys,tags⟩,nums,nsA,nsB⟩:WorldD) x=(⟨w.a,w.b,g1,p1,wA,wB,rA,rB,⟨keys,tags⟩,nums,q1,nsB⟩:WorldD):=by
  rw [aU,if_neg b4,jN]
  dsimp only
  rw [hoth,<-hp1,<-hq1,<-hg1]
 rw [e] at hu
 have hS1:=eM (side:=1) (x:=x) hS
 rw [e] at hS1
 try simp (disch:=omega) only [go_sem,seval]
 split<;>rename_i b5<;>(try simp only [zR] at b5)<;>simp (disch:=omega) only [go_sem,seval,b5]<;>(try simp only [zQ] at b5)<;>try simp (disch:=omega) only [go_sem,seval]
 ·rw [xg zO] at hg1
  subst hg1
  try simp (disch:=omega) only [go_sem,seval]
  refine⟨qC,hN _ (i+1,(⟨w.a,w.b,(bag++[x]),p1,wA,wB,rA,rB,⟨keys,tags⟩,nums,q1,nsB⟩:WorldD)) (qI 0 38++qI 47 1++qI 39 6) (by (try dsimp only);exact⟨zO,rfl,rfl,hS1,hu⟩) (by (try dsimp only);omega) (ac zF zF ?_)⟩
  try simp (disch:=omega) only [go_sem,seval]
  try simp [LetterD.cs]
 rw [B0 zO] at hg1
 subst hg1
 try simp (disch:=omega) only [go_sem,seval]
 refine⟨qC,hN _ (i+1,(⟨w.a,w.b,g1,p1,wA,wB,rA,rB,⟨keys,tags⟩,nums,q1,nsB⟩:WorldD)) (qI 0 45) (by (try dsimp only);exact⟨zO,rfl,rfl,hS1,hu⟩) (by (try dsimp only);omega) (ac zF zF ?_)⟩
 try simp (disch:=omega) only [go_sem,seval]
theorem f9 (w:WorldD) (l:List LetterD) (hw:SmallW w) (hl:l.length<=1048576):aP 113 [.ag (w.cs 0),.sc (.int .i64 2),.sc (.sl 21 0 l.length)]
  (w.hp false++[some ⟨l.map LetterD.cs,19,73,false,true⟩]) (.ag ((al 2 w l).cs 22)) (w.hp false++([some ⟨l.map LetterD.cs,19,73,false,true⟩]++(al 2 w l).hp true)):=by
 obtain⟨R,hR⟩:∃ R,R=al 2 w l:=⟨_,rfl⟩
 rw [<-hR]
 have hl2:l.length<=9223372036854775807:=zO
 have hC:=jU w hw
 refine dX func113 (by kernel_rfl) rfl fun E hE=>ae 400 ?_
 simp (disch:=omega) only [ntmps113,results113,go_sem,seval]
 refine aD (qC) (hC) (qI 0 21) qM zF (ae 400 ?_)
 simp (disch:=omega) only [go_sem,seval]
 refine iv 22 hE (fun s (y:Nat×WorldD)=>s.at (qU [0,1,8,105]) [(7,.sc (.int .i64 (y.1:Nat)))] (((s.hp.take 24).set 22 (some ⟨[(dM y.2 24 25 26 27 28 29 30 31 32 33 34 35 36 37 38 39 40 41 42 43 44)],61,44,true,false⟩))++(eP w true++(eQ y.2 true)))) (fun (y:Nat×WorldD)=>y.1<=l.length/\y.2.a=w.a/\y.2.b=w.b/\SmallP2 y.2/\R=al 2 y.2 (l.drop y.1)) (fun (y:Nat×WorldD)=>l.length - y.1) (0,w) (qI 0 45) (qC) (⟨RQ _,rfl,rfl,hw.rest,hR⟩) (ac zF zF ?_) fun y hy N hN=>?_
 ·try simp (disch:=omega) only [go_sem,seval]
 obtain⟨i,u⟩:=y
 obtain⟨hi,ha,hb,hS,hu⟩:=hy
 obtain⟨ua,ub,bag,past,wA,wB,rA,rB,known,nums,nsA,nsB⟩:=u
 obtain⟨keys,tags⟩:=known
 dsimp only at hi ha hb hu
 subst ha hb
 have s1:=hS.bag
 have s2:=hS.past
 have s3:=hS.keys
 have s4:=hS.tags
 have s5:=hS.nums
 have s6:=hS.ansA
 have s7:=hS.ansB
 dsimp only at s1 s2 s3 s4 s5 s6 s7
 refine d9 1006 400 ?_
 try simp (disch:=omega) only [go_sem,seval]
 split<;>rename_i h<;>(try simp only [decide_eq_true_eq,decide_eq_false_iff_not,Sb] at h)
 rotate_left
 ·have e:i=l.length:=zO
  subst e
  rw [oO (R1 _)] at hu
  subst hu
  try simp (disch:=omega) only [go_sem,seval]
  refine cY (qI 0 22++qI 24 21) (qC) _ (by simp only [go_sem];rfl) zF zF ?_
  simp (disch:=omega) only [go_sem,seval]
 rw [mz h] at hu
 generalize hx:l[i]=x at hu
 have hget:=aQ (enc:=LetterD.cs) h
 rw [hx] at hget
 try simp (disch:=omega) only [go_sem,seval,hget]
 obtain⟨p1,hp1⟩:∃ p,p=fm past x:=⟨_,rfl⟩
 refine eX 22 hE (fun s=>s.at (qU [9,14,25,14]) [] (((s.hp.take 24).set 22 (some ⟨[(dM (⟨w.a,w.b,bag,p1,wA,wB,rA,rB,⟨keys,tags⟩,nums,nsA,nsB⟩:WorldD) 24 25 26 27 28 29 30 31 32 33 34 35 36 37 38 39 40 41 42 43 44)],61,44,true,false⟩))++(eP w true++(eQ (⟨w.a,w.b,bag,p1,wA,wB,rA,rB,⟨keys,tags⟩,nums,nsA,nsB⟩:WorldD) true++[some ⟨[x.cs],19,73,true,false⟩])))) (qC) zF (fun N hN=>ae 401 ?_) (d9 1008 400 ?_)
 ·try simp (disch:=omega) only [go_sem,seval]
  split<;>rename_i b1<;>(try simp only [zR] at b1)<;>simp (disch:=omega) only [go_sem,seval,b1]<;>(try simp only [zQ] at b1)<;>try simp (disch:=omega) only [go_sem,seval]
  ·rw [vD zO] at hp1
   subst hp1
   try simp (disch:=omega) only [go_sem,seval]
   refine⟨qC,hN _ (qI 0 39++qI 47 1++qI 40 6) (ac zF zF ?_)⟩
   simp (disch:=omega) only [go_sem,seval]
   try simp [LetterD.cs]
  rw [vE zO] at hp1
  subst hp1
  try simp (disch:=omega) only [go_sem,seval]
  refine⟨qC,hN _ (qI 0 46) (ac zF zF ?_)⟩
  simp (disch:=omega) only [go_sem,seval]
 try simp (disch:=omega) only [go_sem,seval]
 obtain⟨q1,hq1⟩:∃ q,q=ln nsB (lq 2 2 x) w.b.now:=⟨_,rfl⟩
 refine eX 22 hE (fun s=>s.at (qU [9,14,25,35]) [] (((s.hp.take 24).set 22 (some ⟨[(dM (⟨w.a,w.b,bag,p1,wA,wB,rA,rB,⟨keys,tags⟩,nums,nsA,nsB⟩:WorldD) 24 25 26 27 28 29 30 31 32 33 34 35 36 37 38 39 40 41 42 43 44)],61,44,true,false⟩))++(eP w true++(eQ (⟨w.a,w.b,bag,p1,wA,wB,rA,rB,⟨keys,tags⟩,nums,nsA,nsB⟩:WorldD) true++[some ⟨[x.cs],19,73,true,false⟩])))) (qC) zF (fun N hN=>ae 401 ?_) (d9 1010 400 ?_)
 ·try simp (disch:=omega) only [go_sem,seval]
  split<;>rename_i b6<;>(try simp only [zR] at b6)<;>simp (disch:=omega) only [go_sem,seval,b6]<;>(try simp only [zQ] at b6)<;>try simp (disch:=omega) only [go_sem,seval]
  ·try simp (disch:=omega) only [go_sem,seval]
   refine⟨qC,hN _ (qI 0 46) (ac zF zF ?_)⟩
   simp (disch:=omega) only [go_sem,seval]
  try simp (disch:=omega) only [go_sem,seval]
  refine⟨qC,hN _ (qI 0 46) (ac zF zF ?_)⟩
  simp (disch:=omega) only [go_sem,seval]
 try simp (disch:=omega) only [go_sem,seval]
 refine eX 22 hE (fun s=>s.at (qU [9,14,25,56]) [] (((s.hp.take 24).set 22 (some ⟨[(dM (⟨w.a,w.b,bag,p1,wA,wB,rA,rB,⟨keys,tags⟩,nums,nsA,q1⟩:WorldD) 24 25 26 27 28 29 30 31 32 33 34 35 36 37 38 39 40 41 42 43 44)],61,44,true,false⟩))++(eP w true++(eQ (⟨w.a,w.b,bag,p1,wA,wB,rA,rB,⟨keys,tags⟩,nums,nsA,q1⟩:WorldD) true++[some ⟨[x.cs],19,73,true,false⟩])))) (qC) zF (fun N hN=>ae 401 ?_) (ae 400 ?_)
 ·try simp (disch:=omega) only [go_sem,seval]
  split<;>rename_i b2<;>(try simp only [zR] at b2)<;>simp (disch:=omega) only [go_sem,seval,b2]<;>(try simp only [zQ] at b2)<;>try simp (disch:=omega) only [go_sem,seval]
  ·rw [B4 b2] at hq1
   split<;>rename_i b3<;>(try simp only [zR] at b3)<;>simp (disch:=omega) only [go_sem,seval,b3]<;>(try simp only [zQ] at b3)<;>try simp (disch:=omega) only [go_sem,seval]
   ·rw [B1 zO] at hq1
    subst hq1
    try simp (disch:=omega) only [go_sem,seval]
    refine⟨qC,hN _ (qI 0 44++qI 47 1++qI 45 1) (ac zF zF ?_)⟩
    simp (disch:=omega) only [go_sem,seval]
    try simp [bh]
   rw [B2 zO] at hq1
   subst hq1
   try simp (disch:=omega) only [go_sem,seval]
   refine⟨qC,hN _ (qI 0 46) (ac zF zF ?_)⟩
   simp (disch:=omega) only [go_sem,seval]
  rw [xh b2,iI] at hq1
  subst hq1
  try simp (disch:=omega) only [go_sem,seval]
  refine⟨qC,hN _ (qI 0 46) (ac zF zF ?_)⟩
  simp (disch:=omega) only [go_sem,seval]
 try simp (disch:=omega) only [go_sem,seval]
 refine aD (qC) (eI x.to) [] qM zF (ae 400 ?_)
 simp (disch:=omega) only [go_sem,seval]
 have hoth:ln nsA (lq 2 1 x) w.a.now=nsA:=by rw [tP zD,iI]
 split<;>rename_i b4<;>(try simp only [zR] at b4)<;>simp (disch:=omega) only [go_sem,seval,b4]<;>(try simp only [zQ] at b4)<;>try simp (disch:=omega) only [go_sem,seval]
 ·have hK:=xf ⟨keys,tags⟩ x.tag (by dsimp only;omega) (by dsimp only;omega)
  have hky:(eS ⟨keys,tags⟩ x.tag).keys.length<=1048576:=by rw [i8];exact s3
  have hkt:(eS ⟨keys,tags⟩ x.tag).tags.length<=1048576:=nP s4
  obtain⟨kk,hkk⟩:∃ k,k=eS ⟨keys,tags⟩ x.tag:=⟨_,rfl⟩
  rw [<-hkk] at hK hky hkt
  obtain⟨k1,t1⟩:=kk
  dsimp only at hky hkt
  have t5a:(dD nums x.nonce).length<=1048576:=fe s5
  have t5b:(dD (dD nums x.nonce) x.give).length<=1048576:=fe t5a
  have hh1:=fu (⟨w.a,w.b,bag,p1,wA,wB,rA,rB,⟨k1,t1⟩,nums,nsA,q1⟩:WorldD) x.nonce (by dsimp only;omega)
  have hh2:=fu (⟨w.a,w.b,bag,p1,wA,wB,rA,rB,⟨k1,t1⟩,(dD nums x.nonce),nsA,q1⟩:WorldD) x.give (by dsimp only;omega)
  have hh3:=fu (⟨w.a,w.b,bag,p1,wA,wB,rA,rB,⟨k1,t1⟩,(dD (dD nums x.nonce) x.give),nsA,q1⟩:WorldD) x.sgn (by dsimp only;omega)
  dsimp only at hh1 hh2 hh3
  have e:aU 2 (⟨w.a,w.b,bag,past,wA,wB,rA,rB,⟨keys,tags⟩,nums,nsA,nsB⟩:WorldD) x=(⟨w.a,w.b,bag,p1,wA,wB,rA,rB,⟨k1,t1⟩,(dD (dD (dD nums x.nonce) x.give) x.sgn),nsA,q1⟩:WorldD):=by
   rw [aU,if_pos b4,mZ,jN]
   dsimp only
   rw [<-hkk,hoth,<-hp1,<-hq1]
  rw [e] at hu
  have hS1:=eM (side:=2) (x:=x) hS
  rw [e] at hS1
  generalize dD nums x.nonce=m1 at*
  generalize dD m1 x.give=m2 at*
  generalize dD m2 x.sgn=m3 at*
  try simp (disch:=omega) only [go_sem,seval]
  refine aD (qC) (hK) (qI 40 2) qM zF (ae 400 ?_)
  simp (disch:=omega) only [go_sem,seval]
  refine aD (qC) (hh1) (qI 24 16++qI 46 2++qI 42 3) qM zF (ae 400 ?_)
  simp (disch:=omega) only [go_sem,seval]
  refine aD (qC) (hh2) (qI 24 16++qI 46 3++qI 43 2) qM zF (ae 400 ?_)
  simp (disch:=omega) only [go_sem,seval]
  refine aD (qC) (hh3) (qI 24 16++qI 46 2++qI 49 1++qI 43 2) qM zF (ae 400 ?_)
  simp (disch:=omega) only [go_sem,seval]
  refine⟨qC,hN _ (i+1,(⟨w.a,w.b,bag,p1,wA,wB,rA,rB,⟨k1,t1⟩,m3,nsA,q1⟩:WorldD)) (qI 0 40++qI 46 2++qI 50 1++qI 43 2) (by (try dsimp only);exact⟨zO,rfl,rfl,hS1,hu⟩) (by (try dsimp only);omega) (ac zF zF ?_)⟩
  try simp (disch:=omega) only [go_sem,seval]
 obtain⟨g1,hg1⟩:∃ g,g=pm bag x:=⟨_,rfl⟩
 have e:aU 2 (⟨w.a,w.b,bag,past,wA,wB,rA,rB,⟨keys,tags⟩,nums,nsA,nsB⟩:WorldD) x=(⟨w.a,w.b,g1,p1,wA,wB,rA,rB,⟨keys,tags⟩,nums,nsA,q1⟩:WorldD):=by
  rw [aU,if_neg b4,jN]
  dsimp only
  rw [hoth,<-hp1,<-hq1,<-hg1]
 rw [e] at hu
 have hS1:=eM (side:=2) (x:=x) hS
 rw [e] at hS1
 try simp (disch:=omega) only [go_sem,seval]
 split<;>rename_i b5<;>(try simp only [zR] at b5)<;>simp (disch:=omega) only [go_sem,seval,b5]<;>(try simp only [zQ] at b5)<;>try simp (disch:=omega) only [go_sem,seval]
 ·rw [xg zO] at hg1
  subst hg1
  try simp (disch:=omega) only [go_sem,seval]
  refine⟨qC,hN _ (i+1,(⟨w.a,w.b,(bag++[x]),p1,wA,wB,rA,rB,⟨keys,tags⟩,nums,nsA,q1⟩:WorldD)) (qI 0 38++qI 47 1++qI 39 6) (by (try dsimp only);exact⟨zO,rfl,rfl,hS1,hu⟩) (by (try dsimp only);omega) (ac zF zF ?_)⟩
  try simp (disch:=omega) only [go_sem,seval]
  try simp [LetterD.cs]
 rw [B0 zO] at hg1
 subst hg1
 try simp (disch:=omega) only [go_sem,seval]
 refine⟨qC,hN _ (i+1,(⟨w.a,w.b,g1,p1,wA,wB,rA,rB,⟨keys,tags⟩,nums,nsA,q1⟩:WorldD)) (qI 0 45) (by (try dsimp only);exact⟨zO,rfl,rfl,hS1,hu⟩) (by (try dsimp only);omega) (ac zF zF ?_)⟩
 try simp (disch:=omega) only [go_sem,seval]
theorem NI {o:OutD} {t:List UInt8} (h:FineO o) (h2:o.room - (o.text.length:Int) < (t.length:Int)):o.room - (o.text.length:Int)=(nR o t:Int):=by
 have:=h.len
 rw [nR];omega
theorem HW {o:OutD} {t:List UInt8} (h:FineO o) (h2:¬ o.room - (o.text.length:Int) < (t.length:Int)):nR o t=t.length:=by
 have:=h.len
 rw [nR];omega
theorem Aw {o:OutD} {t:List UInt8} (h:FineO o):(nR o t:Int)<=o.room - (o.text.length:Int):=by
 have:=h.len
 rw [nR];omega
theorem DX (o:OutD) (t:List UInt8) (ht:t.length<=1048576):aP 149 [.ag o.cs,.sc (.st t)] [] (.tu [.ag (dp o t).1.cs,.sc (.int .i64 ((dp o t).2:Nat))]) []:=by
 have hf:=Lr (o:=o) (t:=t)
 have htt:=Lq (o:=o) (t:=t)
 have hK:=kl o
 generalize dp o t=R at*
 refine qE func149 ntmps149 results149 fun E hE=>?_
 refine qK (hK) [] ?_
 refine qB (fun b1=>?_) fun b1=>?_
 ·rw [hf (by simp [nS,b1])]
  refine qX ?_
  exact qF []
 have F:=cg b1
 have f1:=F.base
 have f2:=F.room
 have f3:=F.len
 have f4:=F.sent
 have hr:=Aw (t:=t) F
 have hle:=B8 o t
 have htl:(t.take (nR o t)).length=nR o t:=by rw [R3];omega
 have htt2:(t.take t.length).length=t.length:=by simp
 refine qX ?_
 refine qB (fun b3=>?_) fun b3=>?_
 ·have e:=HW (t:=t) F zO
  rw [e] at hr
  refine qB (fun b2=>?_) fun b2=>?_
  ·rw [hf (by simp only [nS,b1,Sa,decide_eq_false_iff_not,e];omega)]
   refine qX ?_
   exact qF []
  rw [htt (by simp only [nS,b1,Sa,decide_eq_true_eq,e];omega),e]
  refine qX ?_
  refine qD [0,1,2,3,4,5,6,7] ?_
  refine qG ?_
  exact qF []
 by_cases hlt:o.room - (o.text.length:Int) < (t.length:Int)
 ·have e:=NI (t:=t) F hlt
  try simp (disch:=omega) only [go_sem,seval,e]
  refine qB (fun b2=>?_) fun b2=>?_
  ·rw [hf (by simp only [nS,b1,Sa,decide_eq_false_iff_not];omega)]
   refine qX ?_
   exact qF []
  rw [htt (by simp only [nS,b1,Sa,decide_eq_true_eq];omega)]
  refine qX ?_
  refine qD [0,1,2,3,4,5,6,7] ?_
  refine qG ?_
  exact qF []
 have e:=HW (t:=t) F hlt
 have e2:o.room - (o.text.length:Int)=(nR o t:Int):=zO
 try simp (disch:=omega) only [go_sem,seval,e2]
 refine qB (fun b2=>?_) fun b2=>?_
 ·rw [hf (by simp only [nS,b1,Sa,decide_eq_false_iff_not];omega)]
  refine qX ?_
  exact qF []
 rw [htt (by simp only [nS,b1,Sa,decide_eq_true_eq];omega)]
 refine qX ?_
 refine qD [0,1,2,3,4,5,6,7] ?_
 refine qG ?_
 exact qF []
theorem xt {o:OutD} (F:FineO o):(bU o).length<=20/\((bU o).length:Int)<=o.base+(o.text.length:Int) - o.sent:=by
 have:=F.sent
 simp only [bU,R3,R8]
 omega
theorem nT (o:OutD) (ho:o.text.length<=1048576):aP 219 [.ag o.cs] [] (.tu [.ag (dJ o).1.cs,.sc (.bo (dJ o).2)]) []:=by
 have hf:=NG (o:=o)
 have ht:=Jk (o:=o)
 have hK:=mi o
 generalize dJ o=R at*
 refine qE func219 ntmps219 results219 fun E hE=>?_
 refine qK (hK) [] ?_
 refine qB (fun b1=>?_) fun b1=>?_
 ·have F:=cg b1
  have f1:=F.base
  have f2:=F.room
  have f3:=F.len
  obtain⟨k,hk⟩:∃ k:Nat,o.sent - o.base=(k:Int):=⟨(o.sent - o.base).toNat,by have:=F.sent;omega⟩
  have f4:=F.sent
  refine qX ?_
  refine qB (fun b2=>?_) fun b2=>?_
  ·rw [hf (by simp [fZ,b2])]
   refine qX ?_
   exact qF []
  have hnt:bU o=(o.text.drop k).take 20:=by rw [bU,hk,Sd]
  rw [ht (by simp [fZ,b1];omega),hnt]
  try simp (disch:=omega) only [go_sem,seval,hk]
  refine qD [0,1,2,3,4,5,6,7,8,9] ?_
  refine⟨qC,ae 400 ?_⟩
  by_cases h5:((o.text.drop k).length:Int) < 20
  ·have h6:(o.text.drop k).take 20=o.text.drop k:=RV zO
   rw [h6]
   simp only [R8] at h5
   try simp (disch:=omega) only [go_sem,seval,h5]
   refine aK [] (qC) _ (by simp only [go_sem];rfl) zF zF ?_
   simp (disch:=omega) only [go_sem,seval]
   try simp [h5,h6]
   try exact RV zP
  simp only [R8] at h5
  try simp (disch:=omega) only [go_sem,seval,h5]
  refine qP [] ?_
  first|exact⟨⟩|simp [h5]
 rw [hf (by simp [fZ,b1])]
 refine qX ?_
 exact qF []
theorem nU (o:OutD) (ho:o.text.length<=1048576):aP 196 [.ag o.cs] [] (.tu [.ag (dJ o).1.cs,.sc (.bo (dJ o).2)]) []:=by
 have hf:=NG (o:=o)
 have ht:=Jk (o:=o)
 have hK:=kl o
 generalize dJ o=R at*
 refine qE func196 ntmps196 results196 fun E hE=>?_
 refine qK (hK) [] ?_
 refine qB (fun b1=>?_) fun b1=>?_
 ·have F:=cg b1
  have f1:=F.base
  have f2:=F.room
  have f3:=F.len
  obtain⟨k,hk⟩:∃ k:Nat,o.sent - o.base=(k:Int):=⟨(o.sent - o.base).toNat,by have:=F.sent;omega⟩
  have f4:=F.sent
  refine qX ?_
  refine qB (fun b2=>?_) fun b2=>?_
  ·rw [hf (by simp [fZ,b2])]
   refine qX ?_
   exact qF []
  have hnt:bU o=(o.text.drop k).take 20:=by rw [bU,hk,Sd]
  rw [ht (by simp [fZ,b1];omega),hnt]
  try simp (disch:=omega) only [go_sem,seval,hk]
  refine qB (fun b3=>?_) fun b3=>?_
  ·refine qX ?_
   exact qF []
  have h6:(o.text.drop k).take 20=o.text.drop k:=RV (by simp only [R8] at b3⊢;omega)
  rw [h6]
  refine qX ?_
  exact qF []
 rw [hf (by simp [fZ,b1])]
 refine qX ?_
 exact qF []
theorem Jl (o:OutD):aP 125 [.ag o.cs] [] (.ag (dQ o).cs) []:=by
 have hK:=mi o
 obtain⟨R,hR⟩:∃ R,R=dQ o:=⟨_,rfl⟩
 rw [<-hR]
 refine qE func125 ntmps125 results125 fun E hE=>?_
 refine qK (hK) [] ?_
 refine qB (fun b1=>?_) fun b1=>?_
 ·rw [dQ,if_pos b1] at hR
  subst hR
  refine qX ?_
  exact qF []
 rw [dQ,if_neg (by simp [b1])] at hR
 subst hR
 refine qX ?_
 exact qF []
theorem Jm (o:OutD):aP 154 [.ag o.cs] [] (.ag (dQ o).cs) []:=by
 have hK:=kl o
 obtain⟨R,hR⟩:∃ R,R=dQ o:=⟨_,rfl⟩
 rw [<-hR]
 refine qE func154 ntmps154 results154 fun E hE=>?_
 refine qK (hK) [] ?_
 refine qB (fun b1=>?_) fun b1=>?_
 ·rw [dQ,if_pos b1] at hR
  subst hR
  refine qX ?_
  exact qF []
 rw [dQ,if_neg (by simp [b1])] at hR
 subst hR
 refine qX ?_
 exact qF []
theorem B9 (o:OutD) (ho:o.text.length<=1048576) (h:fZ o=true):aP 221 [.ag o.cs] [] (.ag (OutD.cs { o with sent:=o.sent+((bU o).length:Int) })) []:=by
 have hN:=nT o ho
 rw [Jk h] at hN
 have F:=cg (by simp only [fZ,RP] at h;exact h.1:outOk o=true)
 have hl:=xt F
 have f1:=F.base
 have f2:=F.room
 have f3:=F.len
 have f4:=F.sent
 refine qE func221 ntmps221 results221 fun E hE=>?_
 refine qK (hN) [] ?_
 exact qF []
theorem B_ (o:OutD) (ho:o.text.length<=1048576) (h:fZ o=true):aP 197 [.ag o.cs] [] (.ag (OutD.cs { o with sent:=o.sent+((bU o).length:Int) })) []:=by
 have hN:=nU o ho
 rw [Jk h] at hN
 have F:=cg (by simp only [fZ,RP] at h;exact h.1:outOk o=true)
 have hl:=xt F
 have f1:=F.base
 have f2:=F.room
 have f3:=F.len
 have f4:=F.sent
 refine qE func197 ntmps197 results197 fun E hE=>?_
 refine qK (hN) [] ?_
 exact qF []
theorem NJ {p:PiecesD} {m:Int} (h:0<=m):(if (p.ready.length:Int) < m then (p.ready.length:Int) else m)=(tQ p m:Int):=by
 rw [tQ]
 split<;>omega
theorem Lt {p:PiecesD} {m:Int}:tQ p m<=p.ready.length:=Nat.min_le_right _ _
theorem O6 {p:PiecesD} {m:Int} (h:(p.ready.length:Int) < m):tQ p m=p.ready.length:=by rw [tQ];omega
theorem O7 {p:PiecesD} {m:Int} (h0:0<=m) (h:¬ (p.ready.length:Int) < m):m=(tQ p m:Int):=by rw [tQ];omega
theorem xu (p:PiecesD) (m:Int) (hs:SmallP p):aP 122 [.ag (p.cs 0),.sc (.int .i64 m)] (p.hp false) (.tu [.ag ((aZ p m).1.cs 1),.sc (.st (aZ p m).2)]) (p.hp false++(aZ p m).1.hp true):=by
 have hf:=QA (p:=p) (m:=m)
 have ht:=O4 (p:=p) (m:=m)
 have hC:=ay p hs.list
 have hK:=cJ p hs.list
 generalize aZ p m=R at*
 refine jG func122 ntmps122 results122 fun E hE=>?_
 refine qK (hC) (qI 0 1) ?_
 refine qK (hK) (qI 0 1) ?_
 refine qB (fun b1=>?_) fun b1=>?_
 ·have F:=ax b1 hs
  have f0:=F.r0
  have f1:=F.r1
  have f2:=F.ready
  refine qB (fun b2=>?_) fun b2=>?_
  ·rw [hf (by simp only [qw,Bool.and_eq_false_iff,decide_eq_false_iff_not];omega)]
   refine qX ?_
   exact dH (qI 0 1++qI 3 1)
  have hm:=NJ (p:=p) (m:=m) zO
  have hle:=Lt (p:=p) (m:=m)
  have hok:qw p m=decide (p.read+(tQ p m:Int)<=1000000000):=by rw [qw,b1,decide_eq_true (show 0<=m by omega)];rfl
  generalize tQ p m=N at*
  try simp (disch:=omega) only [go_sem,seval,hm]
  refine qB (fun b3=>?_) fun b3=>?_
  ·rw [hf (by rw [hok];simp;omega)]
   refine qX ?_
   exact dH (qI 0 1++qI 3 1)
  rw [ht (by rw [hok];simp;omega)]
  refine qX ?_
  refine bO [(2,5),(4,5)] [(2,4)] [[0,1,3,2,4,5,6],[0,1,3,2,5,4,6],[0,1,3,5,2,4,6]] 1 hE (fun s=>s.at (qU [39,5]) [(5,.sc (.st (p.ready.take N)))] (s.hp.set 2 (some ⟨[[.int .i64 (p.read+(N:Int)),.st (p.ready.drop N),.sl 3 0 p.list.length]],3,35,true,false⟩))) (by kernel_rfl) (qC) (by kernel_rfl) ?_ (ae 400 ?_)
  rotate_left
  rotate_right
  simp only [bf]
  refine⟨aa 400 ?_,aa 400 ?_,aa 400 ?_⟩
  ·simp (disch:=omega) only [go_sem]
   exact qZ (qI 0 5)
  ·simp (disch:=omega) only [go_sem]
   exact qZ (qI 0 5)
  ·simp (disch:=omega) only [go_sem]
   exact qZ (qI 0 5)
  refine qX ?_
  exact dH (qI 0 1++qI 3 1)
 rw [hf (by simp [qw,b1])]
 refine qX ?_
 exact dH (qI 0 1++qI 3 1)
theorem xv (p:PiecesD) (m:Int) (hs:SmallP p):aP 151 [.ag (p.cs 0),.sc (.int .i64 m)] (p.hp false) (.tu [.ag ((aZ p m).1.cs 1),.sc (.st (aZ p m).2)]) (p.hp false++(aZ p m).1.hp true):=by
 have hf:=QA (p:=p) (m:=m)
 have ht:=O4 (p:=p) (m:=m)
 have hC:=mm p hs.list
 have hK:=cK p hs.list
 have hsl:=hs.list
 have hsr:=hs.ready
 generalize aZ p m=R at*
 by_cases h0:0<=m
 ·obtain⟨N,hN⟩:∃ N,N=tQ p m:=⟨_,rfl⟩
  have hle:N<=p.ready.length:=by rw [hN];exact Lt
  have hok:piecesOk p=true->qw p m=decide (p.read+(N:Int)<=1000000000):=fun b1=>by rw [qw,b1,decide_eq_true h0,hN];rfl
  rw [<-hN] at ht
  have key:∀ M:Int,M=(N:Int)->(M=(p.ready.length:Int)\/M=m)->True:=fun _ _ _=>trivial
  refine jG func151 ntmps151 results151 fun E hE=>?_
  refine qK (hC) (qI 0 1) ?_
  by_cases hlt:(p.ready.length:Int) < m
  ·have e:=O6 hlt
   rw [<-hN] at e
   subst e
   try simp (disch:=omega) only [go_sem,seval,hlt]
   refine qK (hK) (qI 0 1) ?_
   refine qB (fun b1=>?_) fun b1=>?_
   ·have F:=ax b1 hs
    have f0:=F.r0
    have f1:=F.r1
    have f2:=F.ready
    have hok':=hok b1
    refine qX ?_
    refine qB (fun b3=>?_) fun b3=>?_
    ·rw [hf (by rw [hok'];simp;omega)]
     refine qX ?_
     exact dH (qI 0 1++qI 3 1)
    rw [ht (by rw [hok'];simp;omega)]
    refine qX ?_
    refine bO [(2,5),(4,5)] [(2,4)] [[0,1,3,2,4,5,6],[0,1,3,2,5,4,6],[0,1,3,5,2,4,6]] 1 hE (fun s=>s.at (qU [42,5]) [(5,.sc (.st (p.ready.take p.ready.length)))] (s.hp.set 2 (some ⟨[[.int .i64 (p.read+(p.ready.length:Int)),.st (p.ready.drop p.ready.length),.sl 3 0 p.list.length]],3,35,true,false⟩))) (by kernel_rfl) (qC) (by kernel_rfl) ?_ (ae 400 ?_)
    rotate_left
    rotate_right
    simp only [bf]
    refine⟨aa 400 ?_,aa 400 ?_,aa 400 ?_⟩
    ·simp (disch:=omega) only [go_sem]
     exact qZ (qI 0 5)
    ·simp (disch:=omega) only [go_sem]
     exact qZ (qI 0 5)
    ·simp (disch:=omega) only [go_sem]
     exact qZ (qI 0 5)
    refine qX ?_
    exact dH (qI 0 1++qI 3 1)
   rw [hf (by simp [qw,b1])]
   refine qX ?_
   exact dH (qI 0 1++qI 3 1)
  have e:=O7 h0 hlt
  rw [<-hN] at e
  subst e
  refine qX ?_
  refine qK (hK) (qI 0 1) ?_
  refine qB (fun b1=>?_) fun b1=>?_
  ·have F:=ax b1 hs
   have f0:=F.r0
   have f1:=F.r1
   have f2:=F.ready
   have hok':=hok b1
   refine qX ?_
   refine qB (fun b3=>?_) fun b3=>?_
   ·rw [hf (by rw [hok'];simp;omega)]
    refine qX ?_
    exact dH (qI 0 1++qI 3 1)
   rw [ht (by rw [hok'];simp;omega)]
   refine qX ?_
   refine bO [(2,5),(4,5)] [(2,4)] [[0,1,3,2,4,5,6],[0,1,3,2,5,4,6],[0,1,3,5,2,4,6]] 1 hE (fun s=>s.at (qU [42,5]) [(5,.sc (.st (p.ready.take N)))] (s.hp.set 2 (some ⟨[[.int .i64 (p.read+(N:Int)),.st (p.ready.drop N),.sl 3 0 p.list.length]],3,35,true,false⟩))) (by kernel_rfl) (qC) (by kernel_rfl) ?_ (ae 400 ?_)
   rotate_left
   rotate_right
   simp only [bf]
   refine⟨aa 400 ?_,aa 400 ?_,aa 400 ?_⟩
   ·simp (disch:=omega) only [go_sem]
    exact qZ (qI 0 5)
   ·simp (disch:=omega) only [go_sem]
    exact qZ (qI 0 5)
   ·simp (disch:=omega) only [go_sem]
    exact qZ (qI 0 5)
   refine qX ?_
   exact dH (qI 0 1++qI 3 1)
  rw [hf (by simp [qw,b1])]
  refine qX ?_
  exact dH (qI 0 1++qI 3 1)
 rw [hf (by simp [qw,h0])]
 refine jG func151 ntmps151 results151 fun E hE=>?_
 refine qK (hC) (qI 0 1) ?_
 refine qK (hK) (qI 0 1) ?_
 refine qB (fun b1=>?_) fun b1=>?_
 ·refine qX ?_
  exact dH (qI 0 1++qI 3 1)
 refine qX ?_
 exact dH (qI 0 1++qI 3 1)
theorem Ax (e:EndD) (m:Int) (hs:Small e) (hsp:SmallP e.inp):aP 86 [.ag (e.cs 0),.sc (.int .i64 m)] (e.hp false) (.tu [.ag ((az e m).1.cs 7),.sc (.st (az e m).2)]) (e.hp false++(az e m).1.hp true):=by
 have hC:=(qH (aV e))
 have hK:=(qH (cd e))
 have hA:=xu e.inp m hsp
 have hf:=HQ (e:=e) (m:=m)
 have htt:=su (e:=e) (m:=m)
 generalize az e m=R at*
 refine qE func86 ntmps86 results86 fun E hE=>?_
 refine qK (hC) (qI 0 7) ?_
 refine qK (hK) (qI 0 7) ?_
 refine qB (fun b1=>?_) fun b1=>?_
 ·rw [hf b1]
  refine qX ?_
  exact qF (qI 0 7++qI 9 7)
 rw [htt b1]
 refine qX ?_
 refine qK (hA) (qI 4 1) ?_
 exact qF (qI 0 7++qI 9 4++qI 17 1++qI 14 2)
theorem qy (e:EndD) (t:List UInt8) (hs:Small e) (ht:t.length<=1048576):aP 104 [.ag (e.cs 0),.sc (.st t)] (e.hp false) (.tu [.ag ((cO e t).1.cs 7),.sc (.int .i64 ((cO e t).2:Nat))]) (e.hp false++(cO e t).1.hp true):=by
 have hC:=(qH (aA e))
 have hK:=(qH (a_ e))
 have hA:=DX e.out t ht
 have hf:=NF (e:=e) (t:=t)
 have htt:=B7 (e:=e) (t:=t)
 generalize cO e t=R at*
 refine qE func104 ntmps104 results104 fun E hE=>?_
 refine qK (hC) (qI 0 7) ?_
 refine qK (hK) (qI 0 7) ?_
 refine qB (fun b1=>?_) fun b1=>?_
 ·rw [hf b1]
  refine qX ?_
  exact qF (qI 0 7++qI 9 7)
 rw [htt b1]
 refine qX ?_
 refine qK (hA) [] ?_
 exact qF (qI 0 7++qI 9 7)
theorem Ay (e:EndD) (m:Int) (hs:Small e) (hsp:SmallP e.inp):aP 107 [.ag (e.cs 0),.sc (.int .i64 m)] (e.hp false) (.tu [.ag ((az e m).1.cs 7),.sc (.st (az e m).2)]) (e.hp false++(az e m).1.hp true):=by
 have hC:=(qH (aA e))
 have hK:=(qH (a_ e))
 have hA:=xv e.inp m hsp
 have hf:=HQ (e:=e) (m:=m)
 have htt:=su (e:=e) (m:=m)
 generalize az e m=R at*
 refine qE func107 ntmps107 results107 fun E hE=>?_
 refine qK (hC) (qI 0 7) ?_
 refine qK (hK) (qI 0 7) ?_
 refine qB (fun b1=>?_) fun b1=>?_
 ·rw [hf b1]
  refine qX ?_
  exact qF (qI 0 7++qI 9 7)
 rw [htt b1]
 refine qX ?_
 refine qK (hA) (qI 4 1) ?_
 exact qF (qI 0 7++qI 9 4++qI 17 1++qI 14 2)
theorem mE {e:EndD} (hs:Small e):Small (cB e).1:=by
 rw [cB];split
 ·exact⟨hs.own,hs.far,hs.subs,hs.halfs,hs.list,hs.done,hs.over⟩
 exact hs
theorem sv (e:EndD):(cB e).2.length<=1:=by
 rw [cB];split<;>simp
theorem Lu (e:EndD):(cB e).1.inp=e.inp:=by
 rw [cB];split<;>rfl
theorem oR (e:EndD):(cB e).1.out.text=e.out.text:=by
 rw [cB];split
 ·dsimp only;rw [eN];split<;>rfl
 rfl
theorem Jn (e:EndD) (hs:Small e) (ht:e.out.text.length<=1048576):aP 175 [.ag (e.cs 0)] (e.hp false) (.tu [.ag ((cB e).1.cs 7),.sc (.sl 14 0 (cB e).2.length)])
  (e.hp false++((cB e).1.hp true++[some ⟨(cB e).2.map LetterD.cs,19,73,true,true⟩])):=by
 have hC:=(qH (aV e))
 have hN:=nT e.out ht
 have hX:=(qH (B5 e))
 have hf:=F3 (e:=e)
 have hpt:= @Ls e
 have hpk:fZ e.out=true->dJ e.out=(⟨e.out.sent,bU e.out⟩,true):=Jk
 have hpf:fZ e.out=false->dJ e.out=(⟨0,[]⟩,false):=NG
 have hW:=fun h=>B9 e.out ht h
 have hcase:=jj e
 have hpo:gN e=(fZ e.out && decide (0<=bc e)):=rfl
 have hpick:0<=bc e->0<=e.pick/\e.pick<=1000000000:=fun h=>by
  rw [bc] at h
  split at h
  ·rename_i hh;exact kq hh.1
  omega
 generalize cB e=R at*
 generalize dJ e.out=np at*
 obtain⟨⟨npos,ntext⟩,nok⟩:=np
 refine jG func175 ntmps175 results175 fun E hE=>?_
 refine qK (hC) (qI 0 7) ?_
 refine qK (hN) [] ?_
 refine qK (hX) (qI 0 7) ?_
 by_cases h1:fZ e.out=true/\0<=bc e
 ·obtain⟨h1,h2⟩:=h1
  have hok:nok=true:=by have:=hpk h1;simp only [Prod.mk.injEq] at this;exact this.2
  have hps:npos=e.out.sent:=by have:=hpk h1;simp only [Prod.mk.injEq,PieceD.mk.injEq] at this;exact this.1.1
  have htx:ntext=bU e.out:=by have:=hpk h1;simp only [Prod.mk.injEq,PieceD.mk.injEq] at this;exact this.1.2
  subst hok hps htx
  have hW:=hW h1
  have hpick:=hpick zO
  obtain⟨n,hn,hk⟩:∃ m:Nat,m < e.subs.length/\bc e=(m:Int):=by rcases hcase with h|h;omega;exact h
  rw [hpt (by rw [hpo,h1,decide_eq_true zO];rfl) hk hn]
  have hg:=aQ (enc:=SubD.cs) hn
  generalize bc e=z at*
  subst hk
  refine qX ?_
  refine qK (hW) [] ?_
  refine qK (zm e.pick (by simp only [ck];omega)) [] ?_
  try simp (disch:=omega) only [go_sem,seval,hg]
  refine bO [(11,12)] [] [(qU [0,14]),(qU [0,11,12,1,11,1,13,1])] 7 hE (fun s=>s.at (qU [39,12]) [(3,.sc (.sl 19 0 1))] ((s.hp.set 8 (some ⟨[[.int .i64 e.side,.int .i64 e.state,.int .i64 e.key,.int .i64 e.peer,.int .i64 e.policy.kind,.int .i64 e.policy.many,.sl 9 0 e.own.length,.sl 10 0 e.far.length,.sl 11 0 e.subs.length,.sl 12 0 e.halfs.length,.int .i64 e.bucket.rate,.int .i64 e.bucket.burst,.int .i64 e.bucket.cur,.st e.out.text,.int .i64 e.out.base,.int .i64 (e.out.sent+((bU e.out).length:Int)),.int .i64 e.out.room,.int .i64 e.inp.read,.st e.inp.ready,.sl 13 0 e.inp.list.length,.sl 14 0 e.done.length,.sl 15 0 e.over.length,.int .i64 e.draw,.int .i64 e.now,.int .i64 (gM e.pick)]],25,38,true,false⟩))++[some ⟨[(uU e.subs[n] e.out).cs],19,73,true,true⟩])) (by kernel_rfl) (qC) (by kernel_rfl) ?_ (ae 400 ?_)
  rotate_left
  rotate_right
  simp only [bf]
  refine⟨aa 400 ?_,aa 400 ?_⟩
  ·simp (disch:=omega) only [go_sem]
   refine aE (ce e.subs[n].road { af with kind:=11,sgn:=e.subs[n].give,pos:=e.out.sent,text:=bU e.out }) [] ?_
   refine⟨qC,(qI 0 20),ac zF zF ?_⟩
   try simp (disch:=omega) only [go_sem,seval]
   try rfl
  ·simp (disch:=omega) only [go_sem]
   refine aE (ce e.subs[n].road { af with kind:=11,sgn:=e.subs[n].give,pos:=e.out.sent,text:=bU e.out }) [] ?_
   refine⟨qC,(qI 0 20),ac zF zF ?_⟩
   try simp (disch:=omega) only [go_sem,seval]
   try rfl
  refine qX ?_
  exact dH (qI 0 7++qI 9 7++qI 19 1)
 have hpn:gN e=false:=by
  rw [hpo]
  by_cases h3:fZ e.out=true
  ·rw [h3,decide_eq_false (fun h=>h1 ⟨h3,h⟩)];rfl
  rw [Sr] at h3;rw [h3];rfl
 rw [hf hpn]
 have hno:nok=false\/bc e= -1:=by
  by_cases h3:fZ e.out=true
  ·right;rcases hcase with h|⟨m,_,h⟩
   ·exact h
   exact absurd ⟨h3,zO⟩ h1
  left;have:=hpf (by simpa using h3);simp only [Prod.mk.injEq] at this;exact this.2
 rcases hno with hno|hno
 ·subst hno
  refine qX ?_
  exact dH (qI 0 7++qI 9 7++qO 1)
 rw [hno] at*
 cases nok with
 |false=>
  refine qX ?_
  exact dH (qI 0 7++qI 9 7++qO 1)
 |true=>
  refine qX ?_
  exact dH (qI 0 7++qI 9 7++qO 1)
theorem Az (e:EndD) (hs:Small e) (ht:e.out.text.length<=1048576):aP 150 [.ag (e.cs 0)] (e.hp false) (.tu [.ag ((cB e).1.cs 7),.sc (.sl 14 0 (cB e).2.length)])
  (e.hp false++((cB e).1.hp true++[some ⟨(cB e).2.map LetterD.cs,19,73,true,true⟩])):=by
 have hC:=(qH (aA e))
 have hN:=nU e.out ht
 have hX:=(qH (B6 e))
 have hf:=F3 (e:=e)
 have hpt:= @Ls e
 have hpk:fZ e.out=true->dJ e.out=(⟨e.out.sent,bU e.out⟩,true):=Jk
 have hpf:fZ e.out=false->dJ e.out=(⟨0,[]⟩,false):=NG
 have hW:=fun h=>B_ e.out ht h
 have hcase:=jj e
 have hpo:gN e=(fZ e.out && decide (0<=bc e)):=rfl
 have hpick:0<=bc e->0<=e.pick/\e.pick<=1000000000:=fun h=>by
  rw [bc] at h
  split at h
  ·rename_i hh;exact kq hh.1
  omega
 generalize cB e=R at*
 generalize dJ e.out=np at*
 obtain⟨⟨npos,ntext⟩,nok⟩:=np
 refine jG func150 ntmps150 results150 fun E hE=>?_
 refine qK (hC) (qI 0 7) ?_
 refine qK (hX) (qI 0 7) ?_
 refine qK (hN) [] ?_
 by_cases h1:fZ e.out=true/\0<=bc e
 ·obtain⟨h1,h2⟩:=h1
  have hok:nok=true:=by have:=hpk h1;simp only [Prod.mk.injEq] at this;exact this.2
  have hps:npos=e.out.sent:=by have:=hpk h1;simp only [Prod.mk.injEq,PieceD.mk.injEq] at this;exact this.1.1
  have htx:ntext=bU e.out:=by have:=hpk h1;simp only [Prod.mk.injEq,PieceD.mk.injEq] at this;exact this.1.2
  subst hok hps htx
  have hW:=hW h1
  have hpick:=hpick zO
  obtain⟨n,hn,hk⟩:∃ m:Nat,m < e.subs.length/\bc e=(m:Int):=by rcases hcase with h|h;omega;exact h
  rw [hpt (by rw [hpo,h1,decide_eq_true zO];rfl) hk hn]
  have hg:=aQ (enc:=SubD.cs) hn
  generalize bc e=z at*
  subst hk
  have hpk2:gM e.pick=if 1000000000 < e.pick+1 then 0 else e.pick+1:=by rw [gM];split<;>split<;>omega
  refine qX ?_
  refine RM 39 (hW) [] ?_
  refine eX 7 hE (fun s=>s.at (qU [8,1,10,31]) [] (s.hp.set 16 (some ⟨[[.int .i64 e.side,.int .i64 e.state,.int .i64 e.key,.int .i64 e.peer,.int .i64 e.policy.kind,.int .i64 e.policy.many,.sl 9 0 e.own.length,.sl 10 0 e.far.length,.sl 11 0 e.subs.length,.sl 12 0 e.halfs.length,.int .i64 e.bucket.rate,.int .i64 e.bucket.burst,.int .i64 e.bucket.cur,.st e.out.text,.int .i64 e.out.base,.int .i64 (e.out.sent+((bU e.out).length:Int)),.int .i64 e.out.room,.int .i64 e.inp.read,.st e.inp.ready,.sl 13 0 e.inp.list.length,.sl 14 0 e.done.length,.sl 15 0 e.over.length,.int .i64 e.draw,.int .i64 e.now,.int .i64 (gM e.pick)]],25,38,true,false⟩))) (qC) zF (fun N hN=>ae 401 ?_) (d9 39 400 ?_)
  ·refine qX ?_
   refine qB (fun b9=>?_) fun b9=>?_
   ·rw [if_pos zO] at hpk2
    refine qX ?_
    refine⟨qC,hN _ (qI 0 19) (ac zF zF ?_)⟩
    simp (disch:=omega) only [go_sem,seval]
    exact hpk2.symm
   rw [if_neg zO] at hpk2
   refine qX ?_
   refine⟨qC,hN _ (qI 0 19) (ac zF zF ?_)⟩
   simp (disch:=omega) only [go_sem,seval]
   exact hpk2.symm
  try simp (disch:=omega) only [go_sem,seval,hg]
  refine bO [(0,13),(11,0),(12,0)] [(11,12),(11,13),(12,13)] [(qU [1,12,0,1,13,3]),(qU [1,11,0,1,12,4]),(qU [1,10,0,1,11,5]),(qU [1,13,0,1,14,2])] 7 hE (fun s=>s.at (qU [5,1,46,14]) [(3,.sc (.sl 20 0 1))] (((s.hp.set 8 (some ⟨[[.int .i64 e.side,.int .i64 e.state,.int .i64 e.key,.int .i64 e.peer,.int .i64 e.policy.kind,.int .i64 e.policy.many,.sl 9 0 e.own.length,.sl 10 0 e.far.length,.sl 11 0 e.subs.length,.sl 12 0 e.halfs.length,.int .i64 e.bucket.rate,.int .i64 e.bucket.burst,.int .i64 e.bucket.cur,.st e.out.text,.int .i64 e.out.base,.int .i64 (e.out.sent+((bU e.out).length:Int)),.int .i64 e.out.room,.int .i64 e.inp.read,.st e.inp.ready,.sl 13 0 e.inp.list.length,.sl 14 0 e.done.length,.sl 15 0 e.over.length,.int .i64 e.draw,.int .i64 e.now,.int .i64 (gM e.pick)]],25,38,true,false⟩)).set 17 none)++[some ⟨[(uU e.subs[n] e.out).cs],19,73,true,true⟩])) (by kernel_rfl) (qC) (by kernel_rfl) ?_ (ae 400 ?_)
  rotate_left
  rotate_right
  simp only [bf]
  refine⟨aa 400 ?_,aa 400 ?_,aa 400 ?_,aa 400 ?_⟩
  ·simp (disch:=omega) only [go_sem]
   refine aE (bC e.subs[n].road { af with kind:=11,sgn:=e.subs[n].give,pos:=e.out.sent,text:=bU e.out }) [] ?_
   refine⟨qC,(qI 0 20++qI 21 1),ac zF zF ?_⟩
   try simp (disch:=omega) only [go_sem,seval]
   try rfl
  ·simp (disch:=omega) only [go_sem]
   refine aE (bC e.subs[n].road { af with kind:=11,sgn:=e.subs[n].give,pos:=e.out.sent,text:=bU e.out }) [] ?_
   refine⟨qC,(qI 0 20++qI 21 1),ac zF zF ?_⟩
   try simp (disch:=omega) only [go_sem,seval]
   try rfl
  ·simp (disch:=omega) only [go_sem]
   refine aE (bC e.subs[n].road { af with kind:=11,sgn:=e.subs[n].give,pos:=e.out.sent,text:=bU e.out }) [] ?_
   refine⟨qC,(qI 0 20++qI 21 1),ac zF zF ?_⟩
   try simp (disch:=omega) only [go_sem,seval]
   try rfl
  ·simp (disch:=omega) only [go_sem]
   refine aE (bC e.subs[n].road { af with kind:=11,sgn:=e.subs[n].give,pos:=e.out.sent,text:=bU e.out }) [] ?_
   refine⟨qC,(qI 0 20++qI 21 1),ac zF zF ?_⟩
   try simp (disch:=omega) only [go_sem,seval]
   try rfl
  refine qX ?_
  exact dH (qI 0 7++qI 9 7++qI 20 1)
 have hpn:gN e=false:=by
  rw [hpo]
  by_cases h3:fZ e.out=true
  ·rw [h3,decide_eq_false (fun h=>h1 ⟨h3,h⟩)];rfl
  rw [Sr] at h3;rw [h3];rfl
 rw [hf hpn]
 have hno:nok=false\/bc e= -1:=by
  by_cases h3:fZ e.out=true
  ·right;rcases hcase with h|⟨m,_,h⟩
   ·exact h
   exact absurd ⟨h3,zO⟩ h1
  left;have:=hpf (by simpa using h3);simp only [Prod.mk.injEq] at this;exact this.2
 rcases hno with hno|hno
 ·subst hno
  refine qX ?_
  rcases hcase with h|⟨m,_,h⟩
  ·try simp (disch:=omega) only [go_sem,seval,h]
   exact dH (qI 0 7++qI 9 7++qI 17 1)
  try simp (disch:=omega) only [go_sem,seval,h]
  exact dH (qI 0 7++qI 9 7++qI 17 1)
 rw [hno] at*
 refine qX ?_
 exact dH (qI 0 7++qI 9 7++qI 17 1)
theorem qz {n:Nat} {e:EndD} (h:n < 3):pushN (3 - n) e=((pushN (3 - (n+1)) (cB e).1).1,(cB e).2++(pushN (3 - (n+1)) (cB e).1).2):=by
 rw [show 3 - n=(3 - (n+1))+1 by omega];rfl
theorem jB:∀ {k:Nat} {e:EndD},Small e->Small (pushN k e).1
 |0,_,h=>h
 |k+1,e,h=>jB (k:=k) (mE h)
theorem oS:∀ {k:Nat} {e:EndD},(pushN k e).1.inp=e.inp
 |0,_=>rfl
 |k+1,e=>by rw [show (pushN (k+1) e).1=(pushN k (cB e).1).1 from rfl,oS,Lu]
theorem mF:∀ {k:Nat} {e:EndD},(pushN k e).1.out.text=e.out.text
 |0,_=>rfl
 |k+1,e=>by rw [show (pushN (k+1) e).1=(pushN k (cB e).1).1 from rfl,mF,oR]
theorem oU:∀ {k:Nat} {e:EndD},(pushN k e).2.length<=k
 |0,_=>R1 _
 |k+1,e=>by
  have h1:=sv e
  have h2:=oU (k:=k) (e:=(cB e).1)
  rw [show (pushN (k+1) e).2=(cB e).2++(pushN k (cB e).1).2 from rfl,RT]
  omega
theorem zo (e:EndD) (hs:Small e) (ht:e.out.text.length<=1048576):aP 121 [.ag (e.cs 0)] (e.hp true) (.tu [.ag ((pushN 3 e).1.cs 7),.sc (.sl 14 0 (pushN 3 e).2.length)])
  ((nH 7)++((pushN 3 e).1.hp true++[some ⟨(pushN 3 e).2.map LetterD.cs,19,73,true,true⟩])):=by
 obtain⟨R,hR⟩:∃ R,R=pushN 3 e:=⟨_,rfl⟩
 rw [<-hR]
 refine jG func121 ntmps121 results121 fun E hE=>?_
 refine tx 7 hE (fun s (y:Nat×EndD×List LetterD)=>s.at (qU [0,1,6,15]) [(5,.sc (.int .i64 (y.1:Nat))),(4,.sc (.sl 16 0 y.2.2.length))] ((nH 7++[some ⟨[y.2.1.cs 9],25,38,true,false⟩])++(((s.hp.drop 8).take 1)++(y.2.1.hp true++[some ⟨y.2.2.map LetterD.cs,19,73,true,true⟩])))) (fun (y:Nat×EndD×List LetterD)=>y.1<=3/\Small y.2.1/\y.2.1.out.text.length<=1048576/\y.2.2.length<=y.1/\R=((pushN (3 - y.1) y.2.1).1,y.2.2++(pushN (3 - y.1) y.2.1).2)) (fun (y:Nat×EndD×List LetterD)=>3 - y.1) (0,e,[]) (qI 0 9++qI 0 7++qO 1) (⟨zO,hs,ht,R1 _,hR⟩) fun y hy N hN=>?_
 obtain⟨n,e1,l⟩:=y
 obtain⟨h1,h2,h3,h4,h5⟩:=hy
 dsimp only at h1 h2 h3 h4 h5
 have hP:=Jn e1 h2 h3
 have hp1:=sv e1
 have hps:=mE h2
 have hpt:(cB e1).1.out.text.length<=1048576:=by rw [oR];exact h3
 refine qR ?_
 refine qB (fun b=>?_) fun b=>?_
 ·rw [qz zO] at h5
  obtain⟨pr,hpr⟩:∃ p,p=cB e1:=⟨_,rfl⟩
  rw [<-hpr] at hP hp1 hps hpt h5
  obtain⟨e2,l2⟩:=pr
  dsimp only at hP hp1 hps hpt h5
  rw [<-R0] at h5
  refine qX ?_
  refine qK (hP) (qI 9 7) ?_
  refine KA hN (n+1,e2,l++l2) (qI 0 9++qI 17 7++qI 26 1) (by (try dsimp only);exact⟨zO,hps,hpt,by simp only [RT];omega,h5⟩) ?_
  first|exact⟨⟩|simp
 have e3:n=3:=zO
 subst e3
 simp only [Sx,pushN,RX] at h5
 subst h5
 refine qX ?_
 exact dH (qI 0 7++qI 9 8)
theorem pO (e:EndD) (t:List UInt8) (hs:Small e) (ht:t.length<=1048576) (ho:(cO e t).1.out.text.length<=1048576):aP 106 [.ag (e.cs 0),.sc (.st t)] (e.hp false) (.tu [.ag ((bs e t).1.cs 7),.sc (.sl 14 0 (bs e t).2.length)])
  (e.hp false++((bs e t).1.hp true++[some ⟨(bs e t).2.map LetterD.cs,19,73,true,true⟩])):=by
 have hW:=qy e t hs ht
 have hsw:Small (cO e t).1:=by
  rw [cO];split
  ·exact⟨hs.own,hs.far,hs.subs,hs.halfs,hs.list,hs.done,hs.over⟩
  exact hs
 obtain⟨R,hR⟩:∃ R,R=bs e t:=⟨_,rfl⟩
 rw [<-hR]
 rw [bs] at hR
 generalize cO e t=w1 at*
 obtain⟨e0,n1⟩:=w1
 dsimp only at hsw ho hW hR
 refine jG func106 ntmps106 results106 fun E hE=>?_
 refine qK (hW) (qI 0 7) ?_
 refine tx 7 hE (fun s (y:Nat×EndD×List LetterD)=>s.at (qU [0,3,7,1,10,21]) [(9,.sc (.int .i64 (y.1:Nat))),(8,.sc (.sl 17 0 y.2.2.length))] ((s.hp.take 9)++(y.2.1.hp true++[some ⟨[y.2.1.cs 9],25,38,true,false⟩,some ⟨y.2.2.map LetterD.cs,19,73,true,true⟩]))) (fun (y:Nat×EndD×List LetterD)=>y.1<=3/\Small y.2.1/\y.2.1.out.text.length<=1048576/\y.2.2.length<=y.1/\R=((pushN (3 - y.1) y.2.1).1,y.2.2++(pushN (3 - y.1) y.2.1).2)) (fun (y:Nat×EndD×List LetterD)=>3 - y.1) (0,e0,[]) (qI 0 18) (⟨zO,hsw,ho,R1 _,hR⟩) fun y hy N hN=>?_
 obtain⟨n,e1,l⟩:=y
 obtain⟨h1,h2,h3,h4,h5⟩:=hy
 dsimp only at h1 h2 h3 h4 h5
 have hP:=Az e1 h2 h3
 have hp1:=sv e1
 have hps:=mE h2
 have hpt:(cB e1).1.out.text.length<=1048576:=by rw [oR];exact h3
 refine qR ?_
 refine qB (fun b=>?_) fun b=>?_
 ·rw [qz zO] at h5
  obtain⟨pr,hpr⟩:∃ p,p=cB e1:=⟨_,rfl⟩
  rw [<-hpr] at hP hp1 hps hpt h5
  obtain⟨e2,l2⟩:=pr
  dsimp only at hP hp1 hps hpt h5
  rw [<-R0] at h5
  refine qX ?_
  refine qK (hP) (qI 9 7) ?_
  refine KA hN (n+1,e2,l++l2) (qI 0 9++qI 19 7++qI 16 1++qI 27 1) (by (try dsimp only);exact⟨zO,hps,hpt,by simp only [RT];omega,h5⟩) ?_
  first|exact⟨⟩|simp
 have e3:n=3:=zO
 subst e3
 simp only [Sx,pushN,RX] at h5
 subst h5
 refine qX ?_
 exact dH (qI 0 7++qI 9 7++qI 17 1)
theorem j5 {α:Type} {l:List α} {p:α->Bool} {k:Nat} (h:k < l.length):(l.drop k).filter p=if p l[k] then l[k]::(l.drop (k+1)).filter p else (l.drop (k+1)).filter p:=by
 rw [RS h,List.filter_cons]
theorem lO {α:Type} {l:List α} {p:α->Bool} {k:Nat} (h:l.length<=k):(l.drop k).filter p=[]:=by
 rw [RZ h];rfl
theorem pP {b:BucketD} (h:bucketOk b=true):0<=b.rate/\b.rate<=100/\1<=b.burst/\b.burst<=100/\0<=b.cur/\b.cur<=b.burst:=by
 simp only [bucketOk,cv,RP,decide_eq_true_eq] at h
 omega
theorem DY {b:BucketD} (h:bucketOk b=true):cW b={ b with cur:=min b.burst (b.cur+b.rate) }:=if_pos h
theorem DZ {b:BucketD} (h:bucketOk b=false):cW b=b:=if_neg (by simp [h])
theorem D0 (b:BucketD):aP 123 [.ag b.cs,.sc (.int .i64 1)] [] (.ag (cW b).cs) []:=by
 have hK:=li b
 have hN:=de [1] zP
 have hf:=DZ (b:=b)
 have ht:=DY (b:=b)
 generalize cW b=R at*
 refine qE func123 ntmps123 results123 fun E hE=>?_
 refine qK (hK) [] ?_
 refine qB (fun b1=>?_) fun b1=>?_
 ·have F:=pP b1
  rw [show ([1]:List Int).all gp=true from rfl] at hN
  refine qK (hN) (qI 2 1) ?_
  rw [ht b1]
  by_cases hm:b.cur+b.rate < b.burst
  ·rw [show min b.burst (b.cur+b.rate)=b.cur+b.rate by omega]
   try simp (disch:=omega) only [go_sem,seval,Sq,hm]
   refine qP [] ?_
   first|exact⟨⟩|simp [hm]
  rw [show min b.burst (b.cur+b.rate)=b.burst by omega]
  try simp (disch:=omega) only [go_sem,seval,Sq,hm]
  refine qP [] ?_
  first|exact⟨⟩|simp [hm]
 rw [hf b1]
 refine qX ?_
 exact qF []
theorem D1 (b:BucketD):aP 152 [.ag b.cs,.sc (.int .i64 1)] [] (.ag (cW b).cs) []:=by
 have hK:=jh b
 have hN:=aB 1 0 1000000000
 have hf:=DZ (b:=b)
 have ht:=DY (b:=b)
 generalize cW b=R at*
 refine qE func152 ntmps152 results152 fun E hE=>?_
 refine qK (hK) [] ?_
 refine qB (fun b1=>?_) fun b1=>?_
 ·have F:=pP b1
  rw [show cv 1 0 1000000000=true from rfl] at hN
  refine qK (hN) [] ?_
  rw [ht b1]
  have hB:aP 198 [.sc (.int .i64 (b.cur+b.rate)),.sc (.int .i64 0),.sc (.int .i64 b.burst)] [] (.sc (.int .i64 (min b.burst (b.cur+b.rate)))) []:=by
   refine qE func198 ntmps198 results198 fun E hE=>?_
   refine qB (fun c1=>?_) fun c1=>?_
   ·rw [show min b.burst (b.cur+b.rate)=b.burst by omega]
    refine qX ?_
    exact qF []
   rw [show min b.burst (b.cur+b.rate)=b.cur+b.rate by omega]
   refine qX ?_
   exact qF []
  try simp (disch:=omega) only [go_sem,seval,Sq]
  refine qK (hB) [] ?_
  exact qF []
 rw [hf b1]
 refine qX ?_
 exact qF []
theorem Ca (l:List HalfD) (now:Int) (hl:l.length<=1048576):aP 124 [.sc (.sl 0 0 l.length),.sc (.int .i64 now)] [some ⟨l.map HalfD.cs,8,113,false,true⟩] (.sc (.sl 1 0 (ci l now).length)) [some ⟨l.map HalfD.cs,8,113,false,true⟩,some ⟨(ci l now).map HalfD.cs,8,113,true,true⟩]:=by
 obtain⟨R,hR⟩:∃ R,R=ci l now:=⟨_,rfl⟩
 rw [<-hR]
 rw [ci] at hR
 refine qE func124 ntmps124 results124 fun E hE=>?_
 refine gI 1 hE (fun s (x:Nat×List HalfD)=>s.at (qU [0,1,7,1,11,12]) [(10,.sc (.int .i64 (x.1:Nat))),(5,.sc (.sl 1 0 x.2.length))] (s.hp++[some ⟨x.2.map HalfD.cs,8,113,true,true⟩])) (fun (x:Nat×List HalfD)=>x.1<=l.length/\x.2.length<=x.1/\R=x.2++(l.drop x.1).filter (fun h=>decide (now < h.till))) (fun (x:Nat×List HalfD)=>l.length - x.1) (0,[]) (qI 0 1++qO 1) (⟨RQ _,RQ _,hR⟩) fun x hx N hN=>?_
 obtain⟨k,acc⟩:=x
 obtain⟨h1,h2,h3⟩:=hx
 dsimp only at h1 h2 h3
 refine qR ?_
 refine qB (fun h=>?_) fun h=>?_
 ·rw [j5 h] at h3
  have hg:=aQ (enc:=HalfD.cs) h
  try simp (disch:=omega) only [go_sem,seval,hg]
  refine qB (fun b2=>?_) fun b2=>?_
  ·rw [if_pos (by simpa using b2)] at h3
   refine⟨qC,hN _ (k+1,acc++[l[k]]) (qI 0 1++qI 4 1) (by (try dsimp only);exact⟨zO,by simp;omega,by simpa using h3⟩) (by (try dsimp only);omega) (aO zF zF ?_)⟩
   refine qX ?_
   simp [HalfD.cs]
  rw [if_neg (by simpa using b2)] at h3
  exact qN hN (k+1,acc) (qI 0 2) (by (try dsimp only);exact⟨zO,zO,h3⟩)
 rw [lO zO,RX] at h3
 subst h3
 exact qF (qI 0 2)
theorem Cb (l:List HalfD) (now:Int) (hl:l.length<=1048576):aP 153 [.sc (.sl 0 0 l.length),.sc (.int .i64 now)] [some ⟨l.map HalfD.cs,8,113,false,true⟩] (.sc (.sl 1 0 (ci l now).length)) [some ⟨l.map HalfD.cs,8,113,false,true⟩,some ⟨(ci l now).map HalfD.cs,8,113,true,true⟩]:=by
 obtain⟨R,hR⟩:∃ R,R=ci l now:=⟨_,rfl⟩
 rw [<-hR]
 rw [ci] at hR
 refine qE func153 ntmps153 results153 fun E hE=>?_
 refine gI 1 hE (fun s (x:Nat×List HalfD)=>s.at (qU [7,21]) [(6,.sc (.int .i64 (x.1:Nat))),(5,.sc (.sl 1 0 x.2.length))] ((s.hp.take 1)++[some ⟨x.2.map HalfD.cs,8,113,true,true⟩])) (fun (x:Nat×List HalfD)=>x.1<=l.length/\x.2.length<=x.1/\R=x.2++(l.drop x.1).filter (fun h=>decide (now < h.till))) (fun (x:Nat×List HalfD)=>l.length - x.1) (0,[]) (qI 0 2) (⟨RQ _,RQ _,hR⟩) fun x hx N hN=>?_
 obtain⟨k,acc⟩:=x
 obtain⟨h1,h2,h3⟩:=hx
 dsimp only at h1 h2 h3
 refine qR ?_
 refine qB (fun h=>?_) fun h=>?_
 ·rw [j5 h] at h3
  have hg:=aQ (enc:=HalfD.cs) h
  try simp (disch:=omega) only [go_sem,seval,hg]
  refine qB (fun b2=>?_) fun b2=>?_
  ·rw [if_pos (by simpa using b2)] at h3
   try simp (disch:=omega) only [go_sem,seval,hg]
   refine⟨qC,hN _ (k+1,acc++[l[k]]) (qI 0 1++qI 3 1) (by (try dsimp only);exact⟨zO,by simp;omega,by simpa using h3⟩) (by (try dsimp only);omega) (aO zF zF ?_)⟩
   refine qX ?_
   simp [HalfD.cs]
  rw [if_neg (by simpa using b2)] at h3
  exact qN hN (k+1,acc) (qI 0 2) (by (try dsimp only);exact⟨zO,zO,h3⟩)
 rw [lO zO,RX] at h3
 subst h3
 exact qF (qI 0 2)
theorem m0 (e:EndD) (s:SubD) (h:cv e.side 1 2=true):aP 127 [.ag (e.cs 0),.ag s.cs] (e.hp false) (.ag (dB e s).cs) (e.hp false):=by
 have hT:=pI (3 - e.side)
 have hB:aP 137 [.ag s.road.cs,.ag (LetterD.cs { af with kind:=4,token:=d_ (3 - e.side),nonce:=s.mine,give:=s.take,spare:=s.spare })] [] (.ag (dB e s).cs) []:=ce s.road { af with kind:=4,token:=d_ (3 - e.side),nonce:=s.mine,give:=s.take,spare:=s.spare }
 simp only [cv,RP,decide_eq_true_eq] at h
 refine qE func127 ntmps127 results127 fun E hE=>?_
 refine qD [0,1,2,3,4,6,7,8,9,10,11,5,12,13,14] ?_
 refine aE (hT) [] ?_
 refine aE (hB) [] ?_
 refine qG ?_
 refine qP (qI 0 7) ?_
 first|exact⟨⟩|rfl
theorem sx (e:EndD) (s:SubD) (h:cv e.side 1 2=true):aP 155 [.ag (e.cs 0),.ag s.cs] (e.hp false) (.ag (dB e s).cs) (e.hp false):=by
 have hT:=pJ (3 - e.side)
 have hB:aP 146 [.ag s.road.cs,.ag (LetterD.cs { af with kind:=4,token:=d_ (3 - e.side),nonce:=s.mine,give:=s.take,spare:=s.spare })] [] (.ag (dB e s).cs) []:=bC s.road { af with kind:=4,token:=d_ (3 - e.side),nonce:=s.mine,give:=s.take,spare:=s.spare }
 simp only [cv,RP,decide_eq_true_eq] at h
 refine qE func155 ntmps155 results155 fun E hE=>?_
 refine qD [0,1,2,3,4,6,7,8,9,10,11,5,12,13,14] ?_
 refine aE (hT) [] ?_
 refine aE (hB) [] ?_
 refine qG ?_
 refine qP (qI 0 7) ?_
 first|exact⟨⟩|rfl
theorem D2 (e:EndD) (hl:e.subs.length<=1048576):aP 129 [.ag (e.cs 0)] (e.hp false) (.sc (.sl 7 0 (cE e.subs).length)) (e.hp false++[some ⟨(cE e.subs).map RoadD.cs,3,56,true,true⟩]):=by
 obtain⟨R,hR⟩:∃ R,R=cE e.subs:=⟨_,rfl⟩
 rw [<-hR]
 rw [cE] at hR
 refine qE func129 ntmps129 results129 fun E hE=>?_
 refine gI 7 hE (fun s (x:Nat×List RoadD)=>s.at (qU [0,2,5,2,10,12]) [(9,.sc (.int .i64 (x.1:Nat))),(3,.sc (.sl 8 0 x.2.length))] ((s.hp.take 8)++[some ⟨x.2.map RoadD.cs,3,56,true,true⟩])) (fun (x:Nat×List RoadD)=>x.1<=e.subs.length/\x.2.length<=x.1/\R=x.2++((e.subs.drop x.1).filter (fun s=>s.state != 4)).map SubD.road) (fun (x:Nat×List RoadD)=>e.subs.length - x.1) (0,[]) (qI 0 8++qO 1) (⟨RQ _,RQ _,hR⟩) fun x hx N hN=>?_
 obtain⟨k,acc⟩:=x
 obtain⟨h1,h2,h3⟩:=hx
 dsimp only at h1 h2 h3
 refine qR ?_
 refine qB (fun h=>?_) fun h=>?_
 ·rw [j5 h] at h3
  have hg:=aQ (enc:=SubD.cs) h
  try simp (disch:=omega) only [go_sem,seval,hg]
  refine qB (fun b2=>?_) fun b2=>?_
  ·rw [if_pos (by simpa using b2),RY] at h3
   try simp (disch:=omega) only [go_sem,seval,hg]
   refine⟨qC,hN _ (k+1,acc++[e.subs[k].road]) (qI 0 8++qI 11 1) (by (try dsimp only);exact⟨zO,by simp;omega,by simpa using h3⟩) (by (try dsimp only);omega) (aO zF zF ?_)⟩
   refine qX ?_
   simp [RoadD.cs]
  rw [if_neg (by simpa using b2)] at h3
  exact qN hN (k+1,acc) (qI 0 9) (by (try dsimp only);exact⟨zO,zO,h3⟩)
 rw [lO zO,Sk,RX] at h3
 subst h3
 exact qF (qI 0 7++qI 8 1)
theorem D3 (e:EndD) (hl:e.subs.length<=1048576):aP 160 [.ag (e.cs 0)] (e.hp false) (.sc (.sl 7 0 (cE e.subs).length)) (e.hp false++[some ⟨(cE e.subs).map RoadD.cs,3,56,true,true⟩]):=by
 obtain⟨R,hR⟩:∃ R,R=cE e.subs:=⟨_,rfl⟩
 rw [<-hR]
 rw [cE] at hR
 refine qE func160 ntmps160 results160 fun E hE=>?_
 refine gI 7 hE (fun s (x:Nat×List RoadD)=>s.at (qU [0,1,5,24]) [(4,.sc (.int .i64 (x.1:Nat))),(3,.sc (.sl 8 0 x.2.length))] ((s.hp.take 8)++[some ⟨x.2.map RoadD.cs,3,56,true,true⟩])) (fun (x:Nat×List RoadD)=>x.1<=e.subs.length/\x.2.length<=x.1/\R=x.2++((e.subs.drop x.1).filter (fun s=>s.state != 4)).map SubD.road) (fun (x:Nat×List RoadD)=>e.subs.length - x.1) (0,[]) (qI 0 9) (⟨RQ _,RQ _,hR⟩) fun x hx N hN=>?_
 obtain⟨k,acc⟩:=x
 obtain⟨h1,h2,h3⟩:=hx
 dsimp only at h1 h2 h3
 refine qR ?_
 refine qB (fun h=>?_) fun h=>?_
 ·rw [j5 h] at h3
  have hg:=aQ (enc:=SubD.cs) h
  try simp (disch:=omega) only [go_sem,seval,hg]
  refine qB (fun b2=>?_) fun b2=>?_
  ·rw [if_pos (by simpa using b2),RY] at h3
   try simp (disch:=omega) only [go_sem,seval,hg]
   refine⟨qC,hN _ (k+1,acc++[e.subs[k].road]) (qI 0 8++qI 10 1) (by (try dsimp only);exact⟨zO,by simp;omega,by simpa using h3⟩) (by (try dsimp only);omega) (aO zF zF ?_)⟩
   refine qX ?_
   simp [RoadD.cs]
  rw [if_neg (by simpa using b2)] at h3
  exact qN hN (k+1,acc) (qI 0 9) (by (try dsimp only);exact⟨zO,zO,h3⟩)
 rw [lO zO,Sk,RX] at h3
 subst h3
 exact qF (qI 0 7++qI 8 1)
def nV (l:List AddrD) (n:Int):Nat->Int
 |0=> -1
 |k+1=>if (nJ l k).addr=n then (k:Int) else nV l n k
theorem D4 {l:List AddrD} {n:Int} {k:Nat} (h:k < l.length):fR (l.take (k+1)) n=(fR (l.take k) n || l[k].addr == n):=by
 rw [fR,RW h,List.any_append];simp [fR]
theorem sy {l:List AddrD} {n:Int} {k:Nat} (h:k < l.length):aC (l.take (k+1)) n=if l[k].addr=n then l[k].spare else aC (l.take k) n:=by
 rw [aC,RW h,So];rfl
theorem sB {l:List AddrD} {n:Int}:∀ (k:Nat),k<=l.length->(nV l n k= -1/\fR (l.take k) n=false/\aC (l.take k) n=false)\/∃ j:Nat,∃ hj:j < l.length,j < k/\nV l n k=(j:Int)/\fR (l.take k) n=true/\aC (l.take k) n=l[j].spare
 |0,_=>.inl ⟨rfl,by simp [fR],by simp [aC]⟩
 |k+1,h=>by
  have hk:k < l.length:=zO
  rw [D4 hk,sy hk,nV,gy hk]
  by_cases he:l[k].addr=n
  ·right
   exact⟨k,hk,Nat.lt_succ_self k,by rw [if_pos he],by rw [Sm];exact .inr (by simpa using he),by rw [if_pos he]⟩
  rw [if_neg he,if_neg he]
  have hb:(l[k].addr == n)=false:=by simpa using he
  rw [hb,Bool.or_false]
  rcases sB (l:=l) (n:=n) k zO with h1|⟨j,hj,h2,h3⟩
  ·exact .inl h1
  exact .inr ⟨j,hj,Nat.lt_succ_of_lt h2,h3⟩
def D5 (l:List AddrD) (n:Int):Int:=nV l n l.length
theorem nW (l:List AddrD) (n:Int):(D5 l n= -1/\fR l n=false/\aC l n=false)\/∃ j:Nat,∃ hj:j < l.length,D5 l n=(j:Int)/\fR l n=true/\aC l n=l[j].spare:=by
 have:=sB (l:=l) (n:=n) l.length (R1 _)
 rw [R9] at this
 rcases this with h|⟨j,hj,_,h⟩
 ·exact .inl h
 exact .inr ⟨j,hj,h⟩
theorem xw (e:EndD) (n:Int) (hl:e.far.length<=1048576):aP 130 [.ag (e.cs 0),.sc (.int .i64 n)] (e.hp false) (.sc (.int .i64 (D5 e.far n))) (e.hp false):=by
 obtain⟨R,hR⟩:∃ R,R=D5 e.far n:=⟨_,rfl⟩
 rw [<-hR]
 rw [D5] at hR
 refine gn func130 (by kernel_rfl) rfl fun E hE=>ae 400 ?_
 simp (disch:=omega) only [ntmps130,results130,go_sem,seval]
 refine ir 7 hE (fun s (k:Nat)=>s.at (qU [0,1,4,1,6,17]) [(5,.sc (.int .i64 ((k:Int) - 1)))] (s.hp)) (fun (k:Nat)=>k<=e.far.length/\R=nV e.far n k) (fun (k:Nat)=>k) e.far.length (qI 0 8) (qC) (⟨R1 _,hR⟩) (aO zF zF ?_) fun k hk N hN=>?_
 ·try simp (disch:=omega) only [go_sem,seval]
 obtain⟨h1,h2⟩:=hk
 refine ae 400 ?_
 cases k with
 |zero=>
  rw [nV] at h2
  subst h2
  try simp (disch:=omega) only [go_sem,seval]
  refine aK (qI 0 7) (qC) _ (by simp only [go_sem];rfl) zF zF ?_
  simp (disch:=omega) only [go_sem,seval]
 |succ j=>
  have hj:j < e.far.length:=zO
  have hg:=aQ (enc:=AddrD.cs) hj
  have e1:((j+1:Nat):Int) - 1=(j:Int):=zO
  have e2:(j:Int)+1 - 1=(j:Int):=zO
  rw [nV,gy hj] at h2
  try simp (disch:=omega) only [go_sem,seval,e1,e2,hg]
  split<;>rename_i b<;>(try simp only [zR] at b)<;>simp (disch:=omega) only [go_sem,seval,b]<;>(try simp only [zQ] at b)<;>try simp (disch:=omega) only [go_sem,seval]
  ·rw [if_pos b] at h2
   subst h2
   try simp (disch:=omega) only [go_sem,seval]
   refine aK (qI 0 7) (qC) _ (by simp only [go_sem];rfl) zF zF ?_
   simp (disch:=omega) only [go_sem,seval]
  rw [if_neg b] at h2
  refine⟨qC,hN _ j (qI 0 8) (by (try dsimp only);exact⟨zO,h2⟩) (by (try dsimp only);omega) (aO zF zF ?_)⟩
  try simp (disch:=omega) only [go_sem,seval]
theorem D6 (e:EndD) (n:Int) (hl:e.far.length<=1048576):aP 204 [.ag (e.cs 0),.sc (.int .i64 n)] (e.hp false) (.sc (.bo (fR e.far n))) (e.hp false):=by
 obtain⟨R,hR⟩:∃ R,R=fR e.far n:=⟨_,rfl⟩
 rw [<-hR]
 rw [fR] at hR
 refine qE func204 ntmps204 results204 fun E hE=>?_
 refine gI 7 hE (fun s (k:Nat)=>s.at (qU [0,1,4,1,6,15]) [(5,.sc (.int .i64 (k:Nat)))] (s.hp)) (fun (k:Nat)=>k<=e.far.length/\R=(e.far.drop k).any (fun a=>a.addr == n)) (fun (k:Nat)=>e.far.length - k) 0 (qI 0 8) (⟨RQ _,hR⟩) fun k hk N hN=>?_
 obtain⟨h1,h2⟩:=hk
 refine qR ?_
 refine qB (fun h=>?_) fun h=>?_
 ·rw [eG h] at h2
  have hg:=aQ (enc:=AddrD.cs) h
  try simp (disch:=omega) only [go_sem,seval,hg]
  refine qB (fun b=>?_) fun b=>?_
  ·rw [show (e.far[k].addr == n)=true by simpa using b,Sh] at h2
   subst h2
   refine qX ?_
   exact qF (qI 0 7)
  rw [show (e.far[k].addr == n)=false by simpa using b,Sf] at h2
  exact qN hN (k+1) (qI 0 8) (by (try dsimp only);exact⟨zO,h2⟩)
 rw [eh zO] at h2
 subst h2
 refine qX ?_
 exact qF (qI 0 7)
theorem QC {e:EndD} {r:RoadD} {b:Bool} (h:tR e r=false):join e r b=(e,[]):=if_neg (by simp [h])
theorem QD {e:EndD} {r:RoadD} {b:Bool} (h:tR e r=true):join e r b=({ e with subs:=e.subs++[bL e r b],draw:=e.draw+4 },[dB e (bL e r b)]):=if_pos h
theorem mG {e:EndD} (h:ai e=true):cv e.side 1 2=true:=by
 simp only [ai,RP] at h
 simp_all
theorem Jo (e:EndD) (r:RoadD) (sp:Bool) (hs:Small e):aP 131 [.ag (e.cs 0),.ag r.cs,.sc (.bo sp)] (e.hp false) (.tu [.ag ((join e r sp).1.cs 7),.sc (.sl 14 0 (join e r sp).2.length)])
  (e.hp false++((join e r sp).1.hp true++[some ⟨(join e r sp).2.map LetterD.cs,19,73,true,true⟩])):=by
 have hC:=(qH (aV e))
 have hK:=(qH (cd e))
 have hO:=jf e r.own (by have:=hs.own;omega)
 have hS:=fO e r (by have:=hs.subs;omega)
 have hsub:=hs.subs
 have hF:=xw e r.far (by have:=hs.far;omega)
 have hcase:=nW e.far r.far
 have hf:=QC (e:=e) (r:=r) (b:=sp)
 have ht:=QD (e:=e) (r:=r) (b:=sp)
 have hk:=tR.eq_1 e r
 generalize join e r sp=R at*
 refine jG func131 ntmps131 results131 fun E hE=>?_
 refine qK (hC) (qI 0 7) ?_
 refine qK (hK) (qI 0 7) ?_
 refine qB (fun h1=>?_) fun h1=>?_
 ·refine qB (fun h2=>?_) fun h2=>?_
  ·refine qK (iz r) [] ?_
   refine qB (fun h3=>?_) fun h3=>?_
   ·refine qK (hS) (qI 0 7) ?_
    refine qB (fun h4=>?_) fun h4=>?_
    ·refine qK (hO) (qI 0 7) ?_
     refine qB (fun h5=>?_) fun h5=>?_
     ·refine qK (hF) (qI 0 7) ?_
      rcases hcase with⟨q1,q2,_⟩|⟨j,hj,q1,q2,_⟩
      ·rw [hf (by rw [hk];simp [q2])]
       try simp (disch:=omega) only [go_sem,seval,q1]
       exact dH (qI 0 7++qI 10 7++qO 1)
      try simp (disch:=omega) only [go_sem,seval,q1]
      refine qB (fun h7=>?_) fun h7=>?_
      ·refine qK (gF e) (qI 0 7) ?_
       refine qB (fun h8=>?_) fun h8=>?_
       ·rw [hf (by rw [hk];simp [h8])]
        refine qX ?_
        exact dH (qI 0 7++qI 10 7++qO 1)
       rw [ht (by rw [hk];simp [h1,h2,h3,h5,h8,q2];omega)]
       have h8':=h8
       simp only [cv,RP,decide_eq_true_eq] at h8'
       have hJ:=m0 e (bL e r sp) (mG h1)
       refine qX ?_
       refine qK (iF e h8) (qI 10 8) ?_
       refine bO [(4,5)] [] [(qU [0,7]),[0,1,2,3,5,4,6]] 7 hE (fun s=>s.at (qU [74,5,68,6]) [(7,.sc (.sl 21 0 1))] ((s.hp.set 9 (some ⟨[[.int .i64 e.side,.int .i64 e.state,.int .i64 e.key,.int .i64 e.peer,.int .i64 e.policy.kind,.int .i64 e.policy.many,.sl 10 0 e.own.length,.sl 11 0 e.far.length,.sl 20 0 (e.subs.length+1),.sl 13 0 e.halfs.length,.int .i64 e.bucket.rate,.int .i64 e.bucket.burst,.int .i64 e.bucket.cur,.st e.out.text,.int .i64 e.out.base,.int .i64 e.out.sent,.int .i64 e.out.room,.int .i64 e.inp.read,.st e.inp.ready,.sl 14 0 e.inp.list.length,.sl 15 0 e.done.length,.sl 16 0 e.over.length,.int .i64 (e.draw+4),.int .i64 e.now,.int .i64 e.pick]],25,38,true,false⟩))++[some ⟨[(dB e (bL e r sp)).cs],19,73,true,true⟩])) (by kernel_rfl) (qC) (by kernel_rfl) ?_ (ae 400 ?_)
       rotate_left
       rotate_right
       simp only [bf]
       refine⟨aa 400 ?_,aa 400 ?_⟩
       ·simp (disch:=omega) only [go_sem]
        refine aE (hJ) (qI 0 7) ?_
        refine⟨qC,(qI 0 22),ac zF zF ?_⟩
        try simp (disch:=omega) only [go_sem,seval]
        try rfl
       ·simp (disch:=omega) only [go_sem]
        refine aE (hJ) (qI 0 7) ?_
        refine⟨qC,(qI 0 22),ac zF zF ?_⟩
        try simp (disch:=omega) only [go_sem,seval]
        try rfl
       refine qX ?_
       refine cY (qI 0 7++qI 10 2++qI 20 1++qI 13 4++qI 21 1) (qC) _ (by simp only [go_sem];rfl) zF zF ?_
       simp (disch:=omega) only [go_sem,seval]
       try simp [SubD.cs,bL]
       try omega
      rw [hf (by rw [hk];first|(simp [h7];done)|(simp [h7];intros;omega))]
      refine qX ?_
      exact dH (qI 0 7++qI 10 7++qO 1)
     rw [hf (by rw [hk];first|(simp [h5];done)|(simp [h5];intros;omega))]
     refine qX ?_
     exact dH (qI 0 7++qI 10 7++qO 1)
    rw [hf (by rw [hk];first|(simp [h4];done)|(simp [h4];intros;omega))]
    refine qX ?_
    exact dH (qI 0 7++qI 10 7++qO 1)
   rw [hf (by rw [hk];first|(simp [h3];done)|(simp [h3];intros;omega))]
   refine qX ?_
   exact dH (qI 0 7++qI 10 7++qO 1)
  rw [hf (by rw [hk];first|(simp [h2];done)|(simp [h2];intros;omega))]
  refine qX ?_
  exact dH (qI 0 7++qI 10 7++qO 1)
 rw [hf (by rw [hk];first|(simp [h1];done)|(simp [h1];intros;omega))]
 refine qX ?_
 exact dH (qI 0 7++qI 10 7++qO 1)
theorem Jp (e:EndD) (r:RoadD) (sp:Bool) (hs:Small e):aP 161 [.ag (e.cs 0),.ag r.cs,.sc (.bo sp)] (e.hp false) (.tu [.ag ((join e r sp).1.cs 7),.sc (.sl 14 0 (join e r sp).2.length)])
  (e.hp false++((join e r sp).1.hp true++[some ⟨(join e r sp).2.map LetterD.cs,19,73,true,true⟩])):=by
 have hC:=(qH (aA e))
 have hK:=(qH (a_ e))
 have hO:=gv e r.own (by have:=hs.own;omega)
 have hS:=fd e r (by have:=hs.subs;omega)
 have hsub:=hs.subs
 have hF:=D6 e r.far (by have:=hs.far;omega)
 have hcase:=nW e.far r.far
 have hf:=QC (e:=e) (r:=r) (b:=sp)
 have ht:=QD (e:=e) (r:=r) (b:=sp)
 have hk:=tR.eq_1 e r
 generalize join e r sp=R at*
 refine jG func161 ntmps161 results161 fun E hE=>?_
 refine qK (hC) (qI 0 7) ?_
 refine qK (hK) (qI 0 7) ?_
 refine qB (fun h1=>?_) fun h1=>?_
 ·refine qB (fun h2=>?_) fun h2=>?_
  ·refine qK (jQ r) [] ?_
   refine qB (fun h3=>?_) fun h3=>?_
   ·refine qK (hS) (qI 0 7) ?_
    refine qB (fun h4=>?_) fun h4=>?_
    ·refine qK (hO) (qI 0 7) ?_
     refine qB (fun h5=>?_) fun h5=>?_
     ·refine qK (hF) (qI 0 7) ?_
      refine qB (fun h6=>?_) fun h6=>?_
      ·refine qB (fun h7=>?_) fun h7=>?_
       ·refine qK (gw e) (qI 0 7) ?_
        refine qB (fun h8=>?_) fun h8=>?_
        ·rw [hf (by rw [hk];simp [h8])]
         refine qX ?_
         exact dH (qI 0 7++qI 10 7++qI 18 1)
        rw [ht (by rw [hk];have:=dw h1;simp [h1,h2,h3,h5,h6,h8];omega)]
        have h8':=h8
        simp only [cv,RP,decide_eq_true_eq] at h8'
        have hd1:cv e.draw 1 999999998=true:=by simp only [cv,RP,decide_eq_true_eq];omega
        have hd2:cv (e.draw+2) 1 999999998=true:=by simp only [cv,RP,decide_eq_true_eq];omega
        have hJ:aP 155 [.ag (EndD.cs { e with draw:=e.draw+2+2,subs:=e.subs++[bL e r sp] } 0),.ag (bL e r sp).cs] (EndD.hp { e with draw:=e.draw+2+2,subs:=e.subs++[bL e r sp] } false) (.ag (dB e (bL e r sp)).cs) (EndD.hp { e with draw:=e.draw+2+2,subs:=e.subs++[bL e r sp] } false):=sx _ _ (show cv e.side 1 2=true from mG h1)
        refine qX ?_
        refine qK (cR e hs hd1) (qI 10 7) ?_
        refine qK (cR { e with draw:=e.draw+2 } ⟨hs.own,hs.far,hs.subs,hs.halfs,hs.list,hs.done,hs.over⟩ hd2) (qI 19 7) ?_
        refine qK (jt { e with draw:=e.draw+2+2 } (bL e r sp) (by have:=dw h1;dsimp only;omega)) (qI 26 7) ?_
        refine bO [(0,6),(4,0),(5,0)] [(4,5),(4,6),(5,6)] [[1,2,3,4,5,0,6,7,8],[1,2,3,4,0,5,6,7,8],[1,2,3,0,4,5,6,7,8],[1,2,3,4,5,6,0,7,8]] 7 hE (fun s=>s.at (qU [9,1,62,25]) [(7,.sc (.sl 35 0 1))] (((s.hp.set 9 (some ⟨[[.int .i64 e.side,.int .i64 e.state,.int .i64 e.key,.int .i64 e.peer,.int .i64 e.policy.kind,.int .i64 e.policy.many,.sl 26 0 e.own.length,.sl 27 0 e.far.length,.sl 34 0 (e.subs.length+1),.sl 29 0 e.halfs.length,.int .i64 e.bucket.rate,.int .i64 e.bucket.burst,.int .i64 e.bucket.cur,.st e.out.text,.int .i64 e.out.base,.int .i64 e.out.sent,.int .i64 e.out.room,.int .i64 e.inp.read,.st e.inp.ready,.sl 30 0 e.inp.list.length,.sl 31 0 e.done.length,.sl 32 0 e.over.length,.int .i64 (e.draw+2+2),.int .i64 e.now,.int .i64 e.pick]],25,38,true,false⟩)).set 18 none)++[some ⟨[(dB e (bL e r sp)).cs],19,73,true,true⟩])) (by kernel_rfl) (qC) (by kernel_rfl) ?_ (ae 400 ?_)
        rotate_left
        rotate_right
        simp only [bf]
        refine⟨aa 400 ?_,aa 400 ?_,aa 400 ?_,aa 400 ?_⟩
        ·simp (disch:=omega) only [go_sem]
         refine aE (hJ) (qI 26 2++qI 34 1++qI 29 4) ?_
         refine⟨qC,(qI 0 35++qI 36 1),ac zF zF ?_⟩
         try simp (disch:=omega) only [go_sem,seval]
         try rfl
        ·simp (disch:=omega) only [go_sem]
         refine aE (hJ) (qI 26 2++qI 34 1++qI 29 4) ?_
         refine⟨qC,(qI 0 35++qI 36 1),ac zF zF ?_⟩
         try simp (disch:=omega) only [go_sem,seval]
         try rfl
        ·simp (disch:=omega) only [go_sem]
         refine aE (hJ) (qI 26 2++qI 34 1++qI 29 4) ?_
         refine⟨qC,(qI 0 35++qI 36 1),ac zF zF ?_⟩
         try simp (disch:=omega) only [go_sem,seval]
         try rfl
        ·simp (disch:=omega) only [go_sem]
         refine aE (hJ) (qI 26 2++qI 34 1++qI 29 4) ?_
         refine⟨qC,(qI 0 35++qI 36 1),ac zF zF ?_⟩
         try simp (disch:=omega) only [go_sem,seval]
         try rfl
        refine qX ?_
        refine cY (qI 0 7++qI 26 2++qI 34 1++qI 29 4++qI 35 1) (qC) _ (by simp only [go_sem];rfl) zF zF ?_
        simp (disch:=omega) only [go_sem,seval]
        try simp [SubD.cs,bL]
        try omega
       rw [hf (by rw [hk];first|(simp [h7];done)|(simp [h7];intros;omega))]
       refine qX ?_
       exact dH (qI 0 7++qI 10 7++qI 18 1)
      rw [hf (by rw [hk];simp [h6])]
      refine qX ?_
      exact dH (qI 0 7++qI 10 7++qI 18 1)
     rw [hf (by rw [hk];first|(simp [h5];done)|(simp [h5];intros;omega))]
     refine qX ?_
     exact dH (qI 0 7++qI 10 7++qI 18 1)
    rw [hf (by rw [hk];first|(simp [h4];done)|(simp [h4];intros;omega))]
    refine qX ?_
    exact dH (qI 0 7++qI 10 7++qI 18 1)
   rw [hf (by rw [hk];first|(simp [h3];done)|(simp [h3];intros;omega))]
   refine qX ?_
   exact dH (qI 0 7++qI 10 7++qI 18 1)
  rw [hf (by rw [hk];first|(simp [h2];done)|(simp [h2];intros;omega))]
  refine qX ?_
  exact dH (qI 0 7++qI 10 7++qI 18 1)
 rw [hf (by rw [hk];first|(simp [h1];done)|(simp [h1];intros;omega))]
 refine qX ?_
 exact dH (qI 0 7++qI 10 7++qI 18 1)
def O8 (a b:AddrD):RoadD:=⟨a.addr,b.addr,0⟩
theorem uV {far l:List AddrD} {acc:List RoadD} {k:Nat} (h:k < l.length):gJ far acc (l.drop k)=gJ far ((acc++far.map (O8 l[k])).take 8) (l.drop (k+1)):=by
 rw [RS h,gJ]
 rfl
theorem D7 {acc:List RoadD} {far:List AddrD} {f:AddrD->RoadD} {j:Nat} {r:List RoadD} (h:j < far.length) (hr:r=(acc++(far.take j).map f).take 8) (hl:r.length < 8):r++[f far[j]]=(acc++(far.take (j+1)).map f).take 8:=by
 have h1:(acc++(far.take j).map f).length < 8:=by
  rw [hr,R3] at hl
  omega
 rw [RV zO] at hr
 rw [RW h,R2,<-R0,<-hr,List.map_singleton,RV]
 rw [<-hr] at h1
 simp
 omega
theorem D8 {acc:List RoadD} {far:List AddrD} {f:AddrD->RoadD} {j i:Nat} {r:List RoadD} (hji:j<=i) (hi:i<=far.length) (hr:r=(acc++(far.take j).map f).take 8) (hl:¬ r.length < 8):r=(acc++(far.take i).map f).take 8:=by
 have h1:8<=(acc++(far.take j).map f).length:=by
  rw [hr,R3] at hl
  omega
 have e:far.take i=far.take j++(far.take i).drop j:=by
  conv=>lhs;rw [<-List.take_append_drop j (far.take i)]
  rw [List.take_take,Nat.min_eq_left hji]
 rw [e,R2,<-R0,List.take_append_of_le_length h1,hr]
theorem qQ (o f:Int) (n:Nat):nz o f (n+1)=nz o f n++[⟨o,f,(n:Int)⟩]:=by
 simp [nz,List.range_succ]
theorem ja (o f:Int) (n:Nat):(nz o f n).length=n:=by simp [nz]
theorem xy {far:List AddrD}:∀ {l:List AddrD} {acc:List RoadD},acc.length<=8->(gJ far acc l).length<=8
 |[],acc,h=>h
 |a::r,acc,h=>by
  rw [gJ]
  exact xy (by rw [R3];omega)
theorem sC {l:List AddrD} (h:0 < l.length):Af l=l[0].addr:=by
 cases l with
 |nil=>simp at h
 |cons a r=>rfl
theorem qT (p:PolicyD) (own far:List AddrD):(wanted p own far).length<=8:=by
 rw [wanted]
 split
 ·rename_i h
  split
  ·exact xy (RQ _)
  rw [ja]
  split
  ·rename_i h2
   have h1:=h.1
   rw [polOk,if_pos h2] at h1
   simp only [cv,RP,decide_eq_true_eq] at h1
   omega
  omega
 simp
theorem Lv (n:Nat):(n == 0)=((n:Int) == 0):=by
 by_cases h:n=0
 ·subst h;rfl
 rw [show (n == 0)=false from by simpa using h,show ((n:Int) == 0)=false from by simp;omega]
theorem pQ (p:PolicyD) (own far:List AddrD) (hp:p.wf) (h1:own.length<=1048576) (h2:far.length<=1048576):aP 25 [.ag p.cs,.sc (.sl 0 0 own.length),.sc (.sl 1 0 far.length)] [some ⟨own.map AddrD.cs,4,69,false,true⟩,some ⟨far.map AddrD.cs,4,69,false,true⟩] (.sc (.sl 2 0 (wanted p own far).length)) [some ⟨own.map AddrD.cs,4,69,false,true⟩,some ⟨far.map AddrD.cs,4,69,false,true⟩,some ⟨(wanted p own far).map RoadD.cs,3,56,true,true⟩]:=by
 obtain⟨m,hm⟩:∃ m,m=wanted p own far:=⟨_,rfl⟩
 rw [<-hm]
 rw [wanted] at hm
 refine qE func25 ntmps25 results25 fun E hE=>?_
 refine qK (pG p) [] ?_
 refine qB (fun g1=>?_) fun g1=>?_
 ·refine qK (aT _ _ _) [] ?_
  refine qB (fun g2=>?_) fun g2=>?_
  ·refine qK (aT _ _ _) [] ?_
   refine qB (fun g3=>?_) fun g3=>?_
   ·rw [if_neg (by simp [g3])] at hm
    subst hm
    exact qF (qI 0 2++qO 1)
   have g2':=g2
   have g3':=g3
   simp only [cv,RP,decide_eq_true_eq] at g2' g3'
   rw [if_pos ⟨g1,g2,g3⟩] at hm
   refine qX ?_
   refine qB (fun g4=>?_) fun g4=>?_
   ·rw [if_pos g4] at hm
    refine qX ?_
    refine gI 2 hE (fun s (x:Nat×List RoadD)=>s.at (qU [0,1,9,1,11,1,13,18,34,22]) [(33,.sc (.int .i64 (x.1:Nat))),(7,.sc (.sl 3 0 x.2.length))] ([some ⟨own.map AddrD.cs,4,69,false,true⟩,some ⟨far.map AddrD.cs,4,69,false,true⟩,some ⟨[p.cs],2,25,true,false⟩,some ⟨x.2.map RoadD.cs,3,56,true,true⟩])) (fun (x:Nat×List RoadD)=>x.1<=own.length/\x.2.length<=8/\gJ far x.2 (own.drop x.1)=m) (fun (x:Nat×List RoadD)=>own.length - x.1) (0,[]) (qI 0 3++qO 1) (⟨RQ _,RQ _,hm.symm⟩) fun x hx N hN=>?_
    obtain⟨k,acc⟩:=x
    obtain⟨hk1,hk2,hk3⟩:=hx
    dsimp only at hk1 hk2 hk3
    refine qR ?_
    refine qB (fun h=>?_) fun h=>?_
    ·rw [uV h] at hk3
     refine qX ?_
     refine gI 2 hE (fun s (y:Nat×List RoadD)=>s.at (qU [0,1,11,1,13,18,35,2,40,16]) [(39,.sc (.int .i64 (y.1:Nat))),(7,.sc (.sl 3 0 y.2.length))] ([some ⟨own.map AddrD.cs,4,69,false,true⟩,some ⟨far.map AddrD.cs,4,69,false,true⟩,some ⟨[p.cs],2,25,true,false⟩,some ⟨y.2.map RoadD.cs,3,56,true,true⟩,some ⟨[AddrD.cs own[k]],4,69,true,false⟩])) (fun (y:Nat×List RoadD)=>y.1<=far.length/\y.2.length<=8/\y.2=(acc++(far.take y.1).map (O8 own[k])).take 8) (fun (y:Nat×List RoadD)=>far.length - y.1) (0,acc) (qI 0 5) (⟨RQ _,hk2,by simp;rw [RV hk2]⟩) fun y hy N2 hN2=>?_
     obtain⟨j,r⟩:=y
     obtain⟨hy1,hy2,hy3⟩:=hy
     dsimp only at hy1 hy2 hy3
     refine qR ?_
     refine qB (fun h5=>?_) fun h5=>?_
     ·refine qX ?_
      refine qB (fun h6=>?_) fun h6=>?_
      ·have hl8:r.length < 8:=zO
       have ht:=D7 h5 hy3 hl8
       refine⟨qC,hN2 _ (j+1,r++[O8 own[k] far[j]]) (qI 0 3++qI 7 1++qI 4 1) (by (try dsimp only);exact⟨zO,by simp;omega,ht⟩) (by (try dsimp only);omega) (aO zF zF ?_)⟩
       refine qX ?_
       simp [O8,RoadD.cs]
      have ht:=D8 (i:=j+1) zO zO hy3 zO
      exact qN hN2 (j+1,r) (qI 0 5) (by (try dsimp only);exact⟨zO,hy2,ht⟩)
     have e:j=far.length:=zO
     subst e
     rw [R9] at hy3
     rw [<-hy3] at hk3
     exact qN hN (k+1,r) (qI 0 4) (by (try dsimp only);exact⟨zO,hy2,hk3⟩)
    rw [RZ zO,gJ] at hk3
    subst hk3
    exact qF (qI 0 2++qI 3 1)
   rw [if_neg g4] at hm
   have ho:0 < own.length:=zO
   have hf:0 < far.length:=zO
   rw [sC ho,sC hf] at hm
   obtain⟨c,hc,hc0,hc8⟩:∃ c:Nat,m=nz own[0].addr far[0].addr c/\(if 1 < p.many then p.many else 1)=(c:Int)/\c<=8:=by
    by_cases h2:p.kind=2
    ·have h:=g1
     rw [polOk,if_pos h2] at h
     simp only [cv,RP,decide_eq_true_eq] at h
     rw [if_pos h2] at hm
     exact⟨p.many.toNat,hm,by split<;>omega,zO⟩
    rw [if_neg h2] at hm
    have h:=g1
    rw [polOk,if_neg h2] at h
    simp only [RP,beq_iff_eq] at h
    exact⟨1,hm,by rw [if_neg zO];rfl,zO⟩
   refine qX ?_
   refine ir 2 hE (fun s (x:Nat)=>s.at (qU [0,1,9,1,11,1,13,64]) [(12,.sc (.int .i64 (x:Nat))),(7,.sc (.sl 3 0 x))] ([some ⟨own.map AddrD.cs,4,69,false,true⟩,some ⟨far.map AddrD.cs,4,69,false,true⟩,some ⟨[p.cs],2,25,true,false⟩,some ⟨(nz own[0].addr far[0].addr x).map RoadD.cs,3,56,true,true⟩])) (fun (x:Nat)=>x<=c) (fun (x:Nat)=>c - x) 0 (qI 0 3++qO 1) (qC) (RQ _) (aO zF zF ?_) fun x hx N hN=>?_
   ·try simp (disch:=omega) only [go_sem,seval]
    try rfl
   refine ae 400 ?_
   have hml:=ja own[0].addr far[0].addr x
   try simp (disch:=omega) only [go_sem,seval,hc0]
   refine qB (fun h=>?_) fun h=>?_
   ·refine qD [0,1,2,3,4,5,6,7,8,9,10,11,12,13] ?_
    refine qG ?_
    refine uC hN (x+1) (qI 0 3++qI 5 1) (by (try dsimp only);exact zO) ?_
    first|exact⟨⟩|simp [qQ,RoadD.cs]
   have e:x=c:=zO
   subst e
   subst hc
   rw [ja]
   exact qF (qI 0 2++qI 3 1)
  rw [if_neg (by simp [g2])] at hm
  subst hm
  exact qF (qI 0 2++qO 1)
 rw [if_neg (by simp [g1])] at hm
 subst hm
 exact qF (qI 0 2++qO 1)
theorem zp (p:PolicyD) (own far:List AddrD) (hp:p.wf) (h1:own.length<=1048576) (h2:far.length<=1048576):aP 159 [.ag p.cs,.sc (.sl 0 0 own.length),.sc (.sl 1 0 far.length)] [some ⟨own.map AddrD.cs,4,69,false,true⟩,some ⟨far.map AddrD.cs,4,69,false,true⟩] (.sc (.sl 2 0 (wanted p own far).length)) [some ⟨own.map AddrD.cs,4,69,false,true⟩,some ⟨far.map AddrD.cs,4,69,false,true⟩,some ⟨(wanted p own far).map RoadD.cs,3,56,true,true⟩]:=by
 obtain⟨m,hm⟩:∃ m,m=wanted p own far:=⟨_,rfl⟩
 rw [<-hm]
 rw [wanted] at hm
 refine qE func159 ntmps159 results159 fun E hE=>?_
 refine qK (jg p) [] ?_
 refine qB (fun g1=>?_) fun g1=>?_
 ·refine qK (aB _ _ _) [] ?_
  refine qB (fun g2=>?_) fun g2=>?_
  ·refine qK (aB _ _ _) [] ?_
   refine qB (fun g3=>?_) fun g3=>?_
   ·rw [if_neg (by simp [g3])] at hm
    subst hm
    exact qF (qI 0 2++qI 3 1)
   have g2':=g2
   have g3':=g3
   simp only [cv,RP,decide_eq_true_eq] at g2' g3'
   rw [if_pos ⟨g1,g2,g3⟩] at hm
   refine qX ?_
   refine qB (fun g4=>?_) fun g4=>?_
   ·rw [if_pos g4] at hm
    refine qX ?_
    refine gI 2 hE (fun s (x:Nat×List RoadD)=>s.at (qU [0,1,9,1,12,51]) [(8,.sc (.int .i64 (x.1:Nat))),(7,.sc (.sl 3 0 x.2.length))] ([some ⟨own.map AddrD.cs,4,69,false,true⟩,some ⟨far.map AddrD.cs,4,69,false,true⟩,some ⟨[p.cs],2,25,true,false⟩,some ⟨x.2.map RoadD.cs,3,56,true,true⟩])) (fun (x:Nat×List RoadD)=>x.1<=own.length/\x.2.length<=8/\gJ far x.2 (own.drop x.1)=m) (fun (x:Nat×List RoadD)=>own.length - x.1) (0,[]) (qI 0 4) (⟨RQ _,RQ _,hm.symm⟩) fun x hx N hN=>?_
    obtain⟨k,acc⟩:=x
    obtain⟨hk1,hk2,hk3⟩:=hx
    dsimp only at hk1 hk2 hk3
    refine qR ?_
    refine qB (fun h=>?_) fun h=>?_
    ·rw [uV h] at hk3
     refine qX ?_
     refine gI 2 hE (fun s (y:Nat×List RoadD)=>s.at (qU [0,1,12,23,36,27]) [(9,.sc (.int .i64 (y.1:Nat))),(7,.sc (.sl 3 0 y.2.length))] ([some ⟨own.map AddrD.cs,4,69,false,true⟩,some ⟨far.map AddrD.cs,4,69,false,true⟩,some ⟨[p.cs],2,25,true,false⟩,some ⟨y.2.map RoadD.cs,3,56,true,true⟩])) (fun (y:Nat×List RoadD)=>y.1<=far.length/\y.2.length<=8/\y.2=(acc++(far.take y.1).map (O8 own[k])).take 8) (fun (y:Nat×List RoadD)=>far.length - y.1) (0,acc) (qI 0 4) (⟨RQ _,hk2,by simp;rw [RV hk2]⟩) fun y hy N2 hN2=>?_
     obtain⟨j,r⟩:=y
     obtain⟨hy1,hy2,hy3⟩:=hy
     dsimp only at hy1 hy2 hy3
     refine qR ?_
     refine qB (fun h5=>?_) fun h5=>?_
     ·refine qX ?_
      refine qB (fun h6=>?_) fun h6=>?_
      ·have hl8:r.length < 8:=zO
       have ht:=D7 h5 hy3 hl8
       refine qD [0,1,2,3,4,5,6,7,8,9,10,11,12,13,14] ?_
       refine qG ?_
       refine⟨qC,hN2 _ (j+1,r++[O8 own[k] far[j]]) (qI 0 3++qI 5 1) (by (try dsimp only);exact⟨zO,by simp;omega,ht⟩) (by (try dsimp only);omega) (aO zF zF ?_)⟩
       refine qX ?_
       simp [O8,RoadD.cs]
      have ht:=D8 (i:=far.length) hy1 (R1 _) hy3 zO
      rw [R9] at ht
      rw [<-ht] at hk3
      exact qN hN (k+1,r) (qI 0 4) (by (try dsimp only);exact⟨zO,hy2,hk3⟩)
     have e:j=far.length:=zO
     subst e
     rw [R9] at hy3
     rw [<-hy3] at hk3
     exact qN hN (k+1,r) (qI 0 4) (by (try dsimp only);exact⟨zO,hy2,hk3⟩)
    rw [RZ zO,gJ] at hk3
    subst hk3
    exact qF (qI 0 2++qI 3 1)
   rw [if_neg g4] at hm
   have ho:0 < own.length:=zO
   have hf:0 < far.length:=zO
   rw [sC ho,sC hf] at hm
   obtain⟨c,hc,hc0,hc8⟩:∃ c:Nat,m=nz own[0].addr far[0].addr c/\(if p.kind=2 then p.many else 1)=(c:Int)/\c<=8:=by
    by_cases h2:p.kind=2
    ·have h:=g1
     rw [polOk,if_pos h2] at h
     simp only [cv,RP,decide_eq_true_eq] at h
     rw [if_pos h2] at hm
     exact⟨p.many.toNat,hm,by rw [if_pos h2];omega,zO⟩
    rw [if_neg h2] at hm
    exact⟨1,hm,by rw [if_neg h2];rfl,zO⟩
   refine qX ?_
   refine qB (fun g5=>?_) fun g5=>?_
   ·rw [if_pos g5] at hc0
    rw [hc0]
    refine qX ?_
    refine ir 2 hE (fun s (x:Nat)=>s.at (qU [0,1,3,1,8,2,12,75]) [(11,.sc (.int .i64 (x:Nat))),(7,.sc (.sl 3 0 x))] ([some ⟨own.map AddrD.cs,4,69,false,true⟩,some ⟨far.map AddrD.cs,4,69,false,true⟩,some ⟨[p.cs],2,25,true,false⟩,some ⟨(nz own[0].addr far[0].addr x).map RoadD.cs,3,56,true,true⟩])) (fun (x:Nat)=>x<=c) (fun (x:Nat)=>c - x) 0 (qI 0 4) (qC) (RQ _) (aO zF zF ?_) fun x hx N hN=>?_
    ·refine qX ?_
     first|rfl|exact⟨hc0.symm,rfl⟩|skip
    refine ae 400 ?_
    have hml:=ja own[0].addr far[0].addr x
    refine qX ?_
    refine qB (fun h=>?_) fun h=>?_
    ·refine qD [0,1,2,3,4,5,6,7,8,9,10,11,12,13] ?_
     refine qG ?_
     refine uC hN (x+1) (qI 0 3++qI 5 1) (by (try dsimp only);exact zO) ?_
     first|exact⟨⟩|simp [qQ,RoadD.cs]
    have e:x=c:=zO
    subst e
    subst hc
    rw [ja]
    exact qF (qI 0 2++qI 3 1)
   rw [if_neg g5] at hc0
   have hc1:c=1:=zO
   subst hc1
   refine ir 2 hE (fun s (x:Nat)=>s.at (qU [0,1,3,1,8,2,12,75]) [(11,.sc (.int .i64 (x:Nat))),(7,.sc (.sl 3 0 x))] ([some ⟨own.map AddrD.cs,4,69,false,true⟩,some ⟨far.map AddrD.cs,4,69,false,true⟩,some ⟨[p.cs],2,25,true,false⟩,some ⟨(nz own[0].addr far[0].addr x).map RoadD.cs,3,56,true,true⟩])) (fun (x:Nat)=>x<=1) (fun (x:Nat)=>1 - x) 0 (qI 0 4) (qC) (RQ _) (aO zF zF ?_) fun x hx N hN=>?_
   ·refine qX ?_
    first|rfl|exact⟨hc0.symm,rfl⟩|skip
   refine ae 400 ?_
   have hml:=ja own[0].addr far[0].addr x
   refine qX ?_
   refine qB (fun h=>?_) fun h=>?_
   ·refine qD [0,1,2,3,4,5,6,7,8,9,10,11,12,13] ?_
    refine qG ?_
    refine uC hN (x+1) (qI 0 3++qI 5 1) (by (try dsimp only);exact zO) ?_
    first|exact⟨⟩|simp [qQ,RoadD.cs]
   have e:x=1:=zO
   subst e
   subst hc
   rw [ja]
   exact qF (qI 0 2++qI 3 1)
  rw [if_neg (by simp [g2])] at hm
  subst hm
  exact qF (qI 0 2++qI 3 1)
 rw [if_neg (by simp [g1])] at hm
 subst hm
 exact qF (qI 0 2++qI 3 1)
theorem xz (w:WorldD) (hw:w.a.policy.wf) (h1:w.a.own.length<=1048576) (h2:w.a.far.length<=1048576) (h3:w.a.subs.length<=1048576):aP 11 [.ag (w.cs 0)] (w.hp false) (.sc (.bo (allWanted w))) (w.hp false):=by
 have hq:(roadsOn w.a.subs).length<=1048576:=by have:=mg w.a.subs;simp [roadsOn];omega
 have hz:=qT w.a.policy w.a.own w.a.far
 refine qE func11 ntmps11 results11 fun E hE=>?_
 refine qD [0,1,2,3,4,5,6,7,8,10,11,9,12,13,14,15,16] ?_
 refine aE (pQ w.a.policy w.a.own w.a.far hw h1 h2) (qI 0 2) ?_
 refine aE (rM w.a h3) (qI 0 7) ?_
 refine aE (nC (wanted w.a.policy w.a.own w.a.far) (roadsOn w.a.subs) zO hq) (qI 22 2) ?_
 refine qG ?_
 refine qJ (qI 0 21) ?_
 rw [allWanted,Lv]
theorem q7 {e:EndD} {r:RoadD} {b:Bool} (hs:Small e):Small (join e r b).1:=by
 rw [join];split
 ·rename_i h
  simp only [tR,RP,decide_eq_true_eq] at h
  exact⟨hs.own,hs.far,by simp only [RT,Sg];omega,hs.halfs,hs.list,hs.done,hs.over⟩
 exact hs
theorem xA (e:EndD) (r:RoadD) (b:Bool):(join e r b).2.length<=1:=by
 rw [join];split<;>simp
theorem xB {far:List AddrD} {e:EndD} {l:List RoadD} {k:Nat} (h:k < l.length):cF far e (l.drop k)=
  ((cF far (join e l[k] (aC far l[k].far)).1 (l.drop (k+1))).1,(join e l[k] (aC far l[k].far)).2++(cF far (join e l[k] (aC far l[k].far)).1 (l.drop (k+1))).2):=by
 rw [RS h];rfl
theorem AA {far:List AddrD} {e:EndD} {l:List RoadD} {k:Nat} (h:l.length<=k):cF far e (l.drop k)=(e,[]):=by
 rw [RZ h];rfl
theorem Ot {e:EndD} (h:¬ (ai e=true/\e.side=1)):manage e=(e,[]):=if_neg h
theorem Ou {e:EndD} (h:ai e=true/\e.side=1):manage e=cF e.far e (cQ (wanted e.policy e.own e.far) (cE e.subs)):=if_pos h
theorem mH (a b:List RoadD):(cQ a b).length<=64:=by
 rw [cQ];split
 ·rename_i h;exact Sv (R5 _ _) h.1
 simp
theorem AB {e:EndD} (h:ai e=true):e.policy.wf:=by
 have hp:polOk e.policy=true:=by simp only [ai,RP] at h;simp_all
 rw [polOk] at hp
 split at hp
 ·rename_i hk
  simp only [cv,RP,decide_eq_true_eq] at hp
  exact⟨⟨zO,zO⟩,⟨zO,zO⟩⟩
 simp only [RP,Sm,beq_iff_eq] at hp
 exact⟨⟨zO,zO⟩,⟨zO,zO⟩⟩
theorem AC (l:List SubD):(cE l).length<=l.length:=by
 rw [cE,Sl];exact R5 _ _
theorem D9 (e:EndD) (hs:Small e):aP 88 [.ag (e.cs 0)] (e.hp false) (.tu [.ag ((manage e).1.cs 7),.sc (.sl 14 0 (manage e).2.length)])
  (e.hp false++((manage e).1.hp true++[some ⟨(manage e).2.map LetterD.cs,19,73,true,true⟩])):=by
 have hC:=(qH (aV e))
 have hK:=(qH (cd e))
 have hsub:=hs.subs
 have hsf:=hs.far
 have hso:=hs.own
 have hf:=Ot (e:=e)
 have ht:=Ou (e:=e)
 have hH:=D2 e hs.subs
 have hhl:=AC e.subs
 have hM64:=mH (wanted e.policy e.own e.far) (cE e.subs)
 obtain⟨R,hR⟩:∃ R,R=manage e:=⟨_,rfl⟩
 rw [<-hR] at hf ht
 rw [<-hR]
 clear hR
 refine dX func88 (by kernel_rfl) rfl fun E hE=>ae 400 ?_
 simp (disch:=omega) only [ntmps88,results88,go_sem,seval]
 refine aD (qC) (hC) (qI 0 7) qM zF (ae 400 ?_)
 simp (disch:=omega) only [go_sem,seval]
 refine aD (qC) (hK) (qI 0 7) qM zF (ae 400 ?_)
 simp (disch:=omega) only [go_sem,seval]
 split<;>rename_i h1<;>(try simp only [zR] at h1)<;>simp (disch:=omega) only [go_sem,seval,h1]<;>(try simp only [zQ] at h1)<;>try simp (disch:=omega) only [go_sem,seval]
 ·split<;>rename_i h2<;>(try simp only [zR] at h2)<;>simp (disch:=omega) only [go_sem,seval,h2]<;>(try simp only [zQ] at h2)<;>try simp (disch:=omega) only [go_sem,seval]
  rotate_left
  ·have hR:=ht ⟨h1,h2⟩
   have hWa:=pQ e.policy e.own e.far (AB h1) zO zO
   have hMi:=nC (wanted e.policy e.own e.far) (cE e.subs) (by have:=qT e.policy e.own e.far;omega) zO
   generalize hMM:cQ (wanted e.policy e.own e.far) (cE e.subs)=M at*
   clear hMM
   refine cD [0,1,2,3,4,5,7,11,6,8,9,10] (by kernel_rfl) (qC) (by kernel_rfl) (aa 400 ?_)
   simp (disch:=omega) only [go_sem,seval]
   refine bD (qC) (hWa) (qI 0 2) qM zF zF (aa 400 ?_)
   simp (disch:=omega) only [go_sem,seval]
   refine bD (qC) (hH) (qI 0 7) qM zF zF (aa 400 ?_)
   simp (disch:=omega) only [go_sem,seval]
   refine bD (qC) (hMi) (qI 17 2) qM zF zF (aa 400 ?_)
   simp (disch:=omega) only [go_sem,seval]
   refine⟨qC,ae 400 ?_⟩
   try simp (disch:=omega) only [go_sem,seval]
   refine iv 7 hE (fun s (y:Nat×EndD×List LetterD)=>s.at (qU [0,1,7,24,34,28]) [(33,.sc (.int .i64 (y.1:Nat))),(31,.sc (.sl 17 0 M.length)),(32,.sc (.int .i64 (M.length:Nat))),(5,.sc (.sl 18 0 y.2.2.length))] ((s.hp.take 9)++(y.2.1.hp true++[some ⟨[y.2.1.cs 9],25,38,true,false⟩,some ⟨M.map RoadD.cs,3,56,true,true⟩,some ⟨y.2.2.map LetterD.cs,19,73,true,true⟩]))) (fun (y:Nat×EndD×List LetterD)=>y.1<=M.length/\Small y.2.1/\y.2.2.length<=y.1/\R=((cF e.far y.2.1 (M.drop y.1)).1,y.2.2++(cF e.far y.2.1 (M.drop y.1)).2)) (fun (y:Nat×EndD×List LetterD)=>M.length - y.1) (0,e,[]) (qI 0 17++qI 19 1++qO 1) (qC) (⟨RQ _,hs,R1 _,hR⟩) (ac zF zF ?_) fun y hy N hN=>?_
   ·try simp (disch:=omega) only [go_sem,seval]
   obtain⟨i,e1,l⟩:=y
   obtain⟨g1,g2,g3,g4⟩:=hy
   dsimp only at g1 g2 g3 g4
   refine ae 400 ?_
   try simp (disch:=omega) only [go_sem,seval]
   split<;>rename_i b<;>(try simp only [zR] at b)<;>simp (disch:=omega) only [go_sem,seval,b]<;>(try simp only [zQ] at b)<;>try simp (disch:=omega) only [go_sem,seval]
   ·rw [xB b] at g4
    have hg:=aQ (enc:=RoadD.cs) b
    generalize hr:M[i]=r at*
    have hJ:=Jo e1 r (aC e.far r.far) g2
    have hj1:=xA e1 r (aC e.far r.far)
    have hjs:=q7 (r:=r) (b:=aC e.far r.far) g2
    obtain⟨pr,hpr⟩:∃ p,p=join e1 r (aC e.far r.far):=⟨_,rfl⟩
    rw [<-hpr] at hJ hj1 hjs g4
    obtain⟨e2,l2⟩:=pr
    dsimp only at hJ hj1 hjs g4
    rw [<-R0] at g4
    try simp (disch:=omega) only [go_sem,seval,hg,hr]
    refine aD (qC) (xw e r.far hsf) (qI 0 7) qM zF (ae 400 ?_)
    simp (disch:=omega) only [go_sem,seval]
    rcases nW e.far r.far with⟨q1,q2,q3⟩|⟨j,hj,q1,q2,q3⟩
    ·rw [q3] at hJ
     try simp (disch:=omega) only [go_sem,seval,q1]
     refine bO [(12,16)] [] [(qU [0,19]),(qU [0,12,16,1,12,4,17,2])] 7 hE (fun s=>s.at (qU [41,16]) [(9,.sc (.pt 28 0 0)),(10,.sc (.sl 27 0 l2.length))] (s.hp++(e2.hp true++[some ⟨l2.map LetterD.cs,19,73,true,true⟩,some ⟨[e2.cs 20],25,38,true,false⟩]))) (by kernel_rfl) (qC) (by kernel_rfl) ?_ (ae 400 ?_)
     rotate_left
     rotate_right
     simp only [bf]
     refine⟨aa 400 ?_,aa 400 ?_⟩
     ·simp (disch:=omega) only [go_sem,q1]
      refine bD (qC) (hJ) (qI 9 7) qM zF zF (aa 400 ?_)
      simp (disch:=omega) only [go_sem,seval]
      exact qZ (qI 0 29)
     ·simp (disch:=omega) only [go_sem,q1]
      refine bD (qC) (hJ) (qI 9 7) qM zF zF (aa 400 ?_)
      simp (disch:=omega) only [go_sem,seval]
      exact qZ (qI 0 20++qI 21 8++qI 20 1)
     try simp (disch:=omega) only [go_sem,seval]
     refine⟨qC,hN _ (i+1,e2,l++l2) (qI 0 9++qI 20 7++qI 16 2++qI 29 1) (by (try dsimp only);exact⟨zO,hjs,by simp only [RT];omega,g4⟩) (by (try dsimp only);omega) (ac zF zF ?_)⟩
     try simp (disch:=omega) only [go_sem,seval]
     try simp
    rw [q3] at hJ
    have hgf:=aQ (enc:=AddrD.cs) hj
    try simp (disch:=omega) only [go_sem,seval,q1]
    refine bO [(12,16)] [] [(qU [0,19]),(qU [0,12,16,1,12,4,17,2])] 7 hE (fun s=>s.at (qU [41,16]) [(9,.sc (.pt 28 0 0)),(10,.sc (.sl 27 0 l2.length))] (s.hp++(e2.hp true++[some ⟨l2.map LetterD.cs,19,73,true,true⟩,some ⟨[e2.cs 20],25,38,true,false⟩]))) (by kernel_rfl) (qC) (by kernel_rfl) ?_ (ae 400 ?_)
    rotate_left
    rotate_right
    simp only [bf]
    refine⟨aa 400 ?_,aa 400 ?_⟩
    ·simp (disch:=omega) only [go_sem,q1,hgf]
     refine bD (qC) (hJ) (qI 9 7) qM zF zF (aa 400 ?_)
     simp (disch:=omega) only [go_sem,seval]
     exact qZ (qI 0 29)
    ·simp (disch:=omega) only [go_sem,q1,hgf]
     refine bD (qC) (hJ) (qI 9 7) qM zF zF (aa 400 ?_)
     simp (disch:=omega) only [go_sem,seval]
     exact qZ (qI 0 20++qI 21 8++qI 20 1)
    try simp (disch:=omega) only [go_sem,seval]
    refine⟨qC,hN _ (i+1,e2,l++l2) (qI 0 9++qI 20 7++qI 16 2++qI 29 1) (by (try dsimp only);exact⟨zO,hjs,by simp only [RT];omega,g4⟩) (by (try dsimp only);omega) (ac zF zF ?_)⟩
    try simp (disch:=omega) only [go_sem,seval]
    try simp
   rw [AA zO,RX] at g4
   subst g4
   try simp (disch:=omega) only [go_sem,seval]
   refine cY (qI 0 7++qI 9 7++qI 18 1) (qC) _ (by simp only [go_sem];rfl) zF zF ?_
   simp (disch:=omega) only [go_sem,seval]
  rw [hf (fun h=>h2 h.2)]
  try simp (disch:=omega) only [go_sem,seval]
  refine cY (qI 0 7++qI 9 7++qO 1) (qC) _ (by simp only [go_sem];rfl) zF zF ?_
  simp (disch:=omega) only [go_sem,seval]
 rw [hf (fun h=>by rw [h1] at h;cases h.1)]
 try simp (disch:=omega) only [go_sem,seval]
 refine cY (qI 0 7++qI 9 7++qO 1) (qC) _ (by simp only [go_sem];rfl) zF zF ?_
 simp (disch:=omega) only [go_sem,seval]
theorem uW (e:EndD) (hs:Small e):aP 109 [.ag (e.cs 0)] (e.hp false) (.tu [.ag ((manage e).1.cs 7),.sc (.sl 14 0 (manage e).2.length)])
  (e.hp false++((manage e).1.hp true++[some ⟨(manage e).2.map LetterD.cs,19,73,true,true⟩])):=by
 have hC:=(qH (aA e))
 have hK:=(qH (a_ e))
 have hsub:=hs.subs
 have hsf:=hs.far
 have hso:=hs.own
 have hf:=Ot (e:=e)
 have ht:=Ou (e:=e)
 have hH:=D3 e hs.subs
 have hhl:=AC e.subs
 have hM64:=mH (wanted e.policy e.own e.far) (cE e.subs)
 obtain⟨R,hR⟩:∃ R,R=manage e:=⟨_,rfl⟩
 rw [<-hR] at hf ht
 rw [<-hR]
 clear hR
 refine jG func109 ntmps109 results109 fun E hE=>?_
 refine qK (hC) (qI 0 7) ?_
 refine qK (hK) (qI 0 7) ?_
 refine qB (fun h1=>?_) fun h1=>?_
 ·refine qB (fun h2=>?_) fun h2=>?_
  rotate_left
  ·have hR:=ht ⟨h1,h2⟩
   have hWa:=zp e.policy e.own e.far (AB h1) zO zO
   have hMi:=wH (wanted e.policy e.own e.far) (cE e.subs) (by have:=qT e.policy e.own e.far;omega) zO
   generalize hMM:cQ (wanted e.policy e.own e.far) (cE e.subs)=M at*
   clear hMM
   refine qD [0,1,2,3,4,5,7,6,8,9,10] ?_
   refine aE (hWa) (qI 0 2) ?_
   refine aE (hH) (qI 0 7) ?_
   refine aE (hMi) (qI 18 2) ?_
   refine qG ?_
   refine tx 7 hE (fun s (y:Nat×EndD×List LetterD)=>s.at (qU [0,1,8,71]) [(7,.sc (.int .i64 (y.1:Nat))),(6,.sc (.sl 17 0 M.length)),(5,.sc (.sl 18 0 y.2.2.length))] ((s.hp.take 9)++(y.2.1.hp true++[some ⟨[y.2.1.cs 9],25,38,true,false⟩,some ⟨M.map RoadD.cs,3,56,true,true⟩,some ⟨y.2.2.map LetterD.cs,19,73,true,true⟩]))) (fun (y:Nat×EndD×List LetterD)=>y.1<=M.length/\Small y.2.1/\y.2.2.length<=y.1/\R=((cF e.far y.2.1 (M.drop y.1)).1,y.2.2++(cF e.far y.2.1 (M.drop y.1)).2)) (fun (y:Nat×EndD×List LetterD)=>M.length - y.1) (0,e,[]) (qI 0 17++qI 20 1++qI 17 1) (⟨RQ _,hs,R1 _,hR⟩) fun y hy N hN=>?_
   obtain⟨i,e1,l⟩:=y
   obtain⟨g1,g2,g3,g4⟩:=hy
   dsimp only at g1 g2 g3 g4
   refine qR ?_
   refine qB (fun b=>?_) fun b=>?_
   ·rw [xB b] at g4
    have hg:=aQ (enc:=RoadD.cs) b
    generalize hr:M[i]=r at*
    have hJ:=Jp e1 r (aC e.far r.far) g2
    have hj1:=xA e1 r (aC e.far r.far)
    have hjs:=q7 (r:=r) (b:=aC e.far r.far) g2
    obtain⟨pr,hpr⟩:∃ p,p=join e1 r (aC e.far r.far):=⟨_,rfl⟩
    rw [<-hpr] at hJ hj1 hjs g4
    obtain⟨e2,l2⟩:=pr
    dsimp only at hJ hj1 hjs g4
    rw [<-R0] at g4
    try simp (disch:=omega) only [go_sem,seval,hg,hr]
    refine tx 7 hE (fun s (z:Nat×Bool)=>s.at (qU [0,1,11,26,38,41]) [(9,.sc (.int .i64 (z.1:Nat))),(8,.sc (.bo z.2))] (s.hp)) (fun (z:Nat×Bool)=>z.1<=e.far.length/\z.2=aC (e.far.take z.1) r.far) (fun (z:Nat×Bool)=>e.far.length - z.1) (0,false) (qI 0 19) (⟨RQ _,rfl⟩) fun z hz N2 hN2=>?_
    obtain⟨k,sb⟩:=z
    obtain⟨f1,f2⟩:=hz
    dsimp only at f1 f2
    refine qR ?_
    refine qB (fun c1=>?_) fun c1=>?_
    ·have hgf:=aQ (enc:=AddrD.cs) c1
     have hsn:=sy (n:=r.far) c1
     rw [<-f2] at hsn
     refine qD [0,1,2,3,4,5,6,7,8,9,10,11] ?_
     try simp (disch:=omega) only [go_sem,seval,hgf,hg,hr]
     refine qG ?_
     refine qB (fun c2=>?_) fun c2=>?_
     ·rw [if_pos c2] at hsn
      try simp (disch:=omega) only [go_sem,seval,hgf]
      exact M7 hN2 (k+1,e.far[k].spare) (qI 0 19) (by (try dsimp only);exact⟨zO,hsn.symm⟩)
     rw [if_neg c2] at hsn
     refine qX ?_
     exact M7 hN2 (k+1,sb) (qI 0 19) (by (try dsimp only);exact⟨zO,hsn.symm⟩)
    have e3:k=e.far.length:=zO
    subst e3
    rw [R9] at f2
    subst f2
    refine qX ?_
    refine qD [0,1,2,3,4,5,6,7,8,9,10,11] ?_
    try simp (disch:=omega) only [go_sem,seval,hg,hr]
    refine aE (hJ) (qI 9 7) ?_
    refine qG ?_
    refine KA hN (i+1,e2,l++l2) (qI 0 9++qI 20 7++qI 16 2++qI 28 1) (by (try dsimp only);exact⟨zO,hjs,by simp only [RT];omega,g4⟩) ?_
    first|exact⟨⟩|simp
   rw [AA zO,RX] at g4
   subst g4
   refine qX ?_
   exact dH (qI 0 7++qI 9 7++qI 18 1)
  rw [hf (fun h=>h2 h.2)]
  refine qX ?_
  exact dH (qI 0 7++qI 9 7++qI 17 1)
 rw [hf (fun h=>by rw [h1] at h;cases h.1)]
 refine qX ?_
 exact dH (qI 0 7++qI 9 7++qI 17 1)
theorem mI {l:List AddrD} (h:bN l=true):∀ (d i:Nat) (hj:i+d+1 < l.length),l[i].id < l[i+d+1].id
 |0,i,hj=>by
  simp only [bN,RP] at h
  have:=ji h.2 (show i+1 < l.length by omega)
  simp only [gr,RP,Sm,beq_iff_eq,decide_eq_true_eq,Nat.add_sub_cancel] at this
  have h1:=this.1.2
  rw [MD,MD,R_,R_,R6 (show i < l.length by omega),R6 (show i+1 < l.length by omega)] at h1
  simp only [Option.getD_some] at h1
  simp only [Sy]
  omega
 |d+1,i,hj=>by
  have h1:=mI h 0 i zO
  have h2:=mI h d (i+1) zO
  simp only [Sy] at h1
  have e:i+1+d+1=i+(d+1)+1:=zO
  simp only [e] at h2
  omega
theorem D_ {l:List AddrD} (h:bN l=true) {i j:Nat} (hi:i < l.length) (hj:j < l.length) (he:l[i].id=l[j].id):i=j:=by
 rcases Nat.lt_trichotomy i j with hl|hl|hl
 ·have:=mI h (j - i - 1) i zO
  have e:i+(j - i - 1)+1=j:=zO
  simp only [e] at this
  omega
 ·exact hl
 have:=mI h (i - j - 1) j zO
 have e:j+(i - j - 1)+1=i:=zO
 simp only [e] at this
 omega
theorem F7 {l:List AddrD} (h:bN l=true) {a:AddrD} (ha:a∈l):∃ j:Nat,∃ hj:j < l.length,aW l a.id=(j:Int)/\l[j]=a:=by
 obtain⟨i,hi,rfl⟩:=List.getElem_of_mem ha
 rcases rL (p:=fun b:AddrD=>b.id == l[i].id) (l:=l) with h1|⟨h1,h2⟩
 ·exfalso
  have hx:∀ (m:List AddrD) (k:Nat) (b:AddrD),b∈m->(b.id == l[i].id)=true->dT (fun b:AddrD=>b.id == l[i].id) k m≠ -1:=by
   intro m
   induction m with
   |nil=>intro k b hb;cases hb
   |cons c m ih=>
    intro k b hb hp
    rw [dT]
    split
    ·omega
    rename_i hc
    rcases List.mem_cons.1 hb with rfl|hb
    ·exact absurd hp hc
    exact ih (k+1) b hb hp
  exact hx l 0 l[i] ha zP h1
 obtain⟨n,hn⟩:=RR h1
 obtain⟨hl,hp⟩:=wM hn
 have hid:l[n].id=l[i].id:=by simpa using hp
 obtain rfl:=D_ h hl hi hid
 exact⟨n,hi,hn,rfl⟩
def nX (l:List AddrD):List AddrD:=l.filter fun a=> !a.told
theorem QE {e:EndD} (h:zn e=false):tellAddrs e=[]:=if_neg (by simp [h])
theorem QF {e:EndD} {k:Nat} (h:zn e=true) (hk:(gV e.subs).headD 0=k) (hl:k < e.subs.length):tellAddrs e=(nX e.own).map (lN e e.subs[k]):=by rw [tellAddrs,if_pos h,hk,cI hl];rfl
theorem AD {l:List Nat} (h:0 < l.length):l.headD 0=l[0]:=by cases l with|nil=>simp at h|cons a r=>rfl
theorem zq (l:List AddrD) (hl:l.length<=1048576):aP 201 [.sc (.sl 0 0 l.length)] [some ⟨l.map AddrD.cs,4,69,false,true⟩] (.sc (.sl 1 0 (nX l).length)) [some ⟨l.map AddrD.cs,4,69,false,true⟩,some ⟨((nX l).map AddrD.id).map bh,1,3,true,true⟩]:=by
 obtain⟨R,hR⟩:∃ R,R=nX l:=⟨_,rfl⟩
 rw [<-hR]
 rw [nX] at hR
 refine qE func201 ntmps201 results201 fun E hE=>?_
 refine gI 1 hE (fun s (x:Nat×List AddrD)=>s.at (qU [5,21]) [(4,.sc (.int .i64 (x.1:Nat))),(3,.sc (.sl 1 0 x.2.length))] ((s.hp.take 1)++[some ⟨(x.2.map AddrD.id).map bh,1,3,true,true⟩])) (fun (x:Nat×List AddrD)=>x.1<=l.length/\x.2.length<=x.1/\R=x.2++(l.drop x.1).filter (fun a=> !a.told)) (fun (x:Nat×List AddrD)=>l.length - x.1) (0,[]) (qI 0 2) (⟨RQ _,RQ _,hR⟩) fun x hx N hN=>?_
 obtain⟨k,acc⟩:=x
 obtain⟨h1,h2,h3⟩:=hx
 dsimp only at h1 h2 h3
 refine qR ?_
 refine qB (fun h=>?_) fun h=>?_
 ·rw [j5 h] at h3
  have hg:=aQ (enc:=AddrD.cs) h
  try simp (disch:=omega) only [go_sem,seval,hg]
  cases ht:l[k].told with
  |true=>
   rw [if_neg (by simp [ht])] at h3
   try simp (disch:=omega) only [go_sem,seval,ht]
   exact qN hN (k+1,acc) (qI 0 2) (by (try dsimp only);exact⟨zO,zO,h3⟩)
  |false=>
   rw [if_pos (by simp [ht])] at h3
   try simp (disch:=omega) only [go_sem,seval,ht,hg]
   refine⟨qC,hN _ (k+1,acc++[l[k]]) (qI 0 1++qI 3 1) (by (try dsimp only);exact⟨zO,by simp;omega,by simpa using h3⟩) (by (try dsimp only);omega) (aO zF zF ?_)⟩
   refine qX ?_
   simp [bh]
 rw [lO zO,RX] at h3
 subst h3
 exact qF (qI 0 2)
theorem Ea {e:EndD} (h:ai e=true):bN e.own=true:=by
 simp only [ai,RP] at h
 simp_all
theorem xC (e:EndD) (hs:Small e):aP 176 [.ag (e.cs 0)] (e.hp false) (.sc (.sl 7 0 (tellAddrs e).length)) (e.hp false++[some ⟨(tellAddrs e).map LetterD.cs,19,73,true,true⟩]):=by
 have hN:=tE e (by have:=hs.subs;omega)
 have hK:=(qH (cd e))
 have hown:=hs.own
 have hf:=QE (e:=e)
 have ht:= @QF e
 have hok:zn e=(ai e && decide (e.state=2) && !decide ((gV e.subs).length=0)):=rfl
 obtain⟨R,hR⟩:∃ R,R=tellAddrs e:=⟨_,rfl⟩
 rw [<-hR] at hf ht
 rw [<-hR]
 clear hR
 refine jG func176 ntmps176 results176 fun E hE=>?_
 refine qK (hN) (qI 0 7) ?_
 refine qK (hK) (qI 0 7) ?_
 refine qB (fun h1=>?_) fun h1=>?_
 ·refine qB (fun h2=>?_) fun h2=>?_
  ·by_cases h3:(gV e.subs).length=0
   ·rw [hf (by rw [hok];simp [h3])]
    try simp (disch:=omega) only [go_sem,seval,h3]
    exact dH (qI 0 7++qO 1)
   have hpos:0 < (gV e.subs).length:=zO
   have hk:=tB hpos
   have hR:=ht (by rw [hok];simp [h1,h2,h3]) (AD hpos) hk
   have hgo:=aQ (enc:=mf) hpos
   generalize hk0:(gV e.subs)[0]=k0 at*
   have hgs:=aQ (enc:=SubD.cs) hk
   generalize hss:e.subs[k0]=s0 at*
   refine qX ?_
   refine qD [0,1,2,3,4,5,6,7,8] ?_
   try simp (disch:=omega) only [go_sem,seval,hgo,hk0,mf,hgs,hss]
   refine qG ?_
   refine tx 7 hE (fun s (y:Nat×List LetterD)=>s.at (qU [0,1,3,1,7,24,34,31]) [(33,.sc (.int .i64 (y.1:Nat))),(5,.sc (.sl 10 0 y.2.length))] ((s.hp.take 10)++[some ⟨y.2.map LetterD.cs,19,73,true,true⟩])) (fun (y:Nat×List LetterD)=>y.1<=e.own.length/\y.2.length<=y.1/\R=y.2++((e.own.drop y.1).filter (fun a=> !a.told)).map (lN e s0)) (fun (y:Nat×List LetterD)=>e.own.length - y.1) (0,[]) (qI 0 10++qO 1) (⟨RQ _,RQ _,hR⟩) fun y hy N hN=>?_
   obtain⟨i,l⟩:=y
   obtain⟨g1,g2,g3⟩:=hy
   dsimp only at g1 g2 g3
   refine qR ?_
   refine qB (fun b=>?_) fun b=>?_
   ·rw [j5 b] at g3
    have hg:=aQ (enc:=AddrD.cs) b
    generalize hae:e.own[i]=a at*
    try simp (disch:=omega) only [go_sem,seval,hg,hae]
    cases htd:a.told with
    |true=>
     rw [if_neg (by simp [htd])] at g3
     try simp (disch:=omega) only [go_sem,seval,htd]
     exact M7 hN (i+1,l) (qI 0 11) (by (try dsimp only);exact⟨zO,zO,g3⟩)
    |false=>
     rw [if_pos (by simp [htd]),RY] at g3
     try simp (disch:=omega) only [go_sem,seval,htd]
     refine qD [0,1,2,3,4,5,6,7,8,9,10,11,12,13,14,15,16,17,18,19,20,21,22,23,24] ?_
     refine aE (rQ e.key e.peer a.id a.addr) [] ?_
     refine aE (ce s0.road { af with kind:=8,tag:=⟨3,e.key,e.peer,a.id,a.addr⟩,sgn:=s0.give,id:=a.id,addr:=a.addr,spare:=a.spare }) [] ?_
     refine qG ?_
     refine⟨qC,hN _ (i+1,l++[lN e s0 a]) (qI 0 10++qI 13 1) (by (try dsimp only);exact⟨zO,by simp;omega,by simpa using g3⟩) (by (try dsimp only);omega) (ac zF zF ?_)⟩
     refine qX ?_
     rw [R2]
     rfl
   rw [lO zO,Sk,RX] at g3
   subst g3
   refine qX ?_
   exact dH (qI 0 7++qI 10 1)
  rw [hf (by rw [hok];simp [h2])]
  refine qX ?_
  exact dH (qI 0 7++qO 1)
 rw [hf (by rw [hok];simp [h1])]
 refine qX ?_
 exact dH (qI 0 7++qO 1)
theorem xD (e:EndD) (hs:Small e):aP 157 [.ag (e.cs 0)] (e.hp false) (.sc (.sl 7 0 (tellAddrs e).length)) (e.hp false++[some ⟨(tellAddrs e).map LetterD.cs,19,73,true,true⟩]):=by
 have hN:=tF e (by have:=hs.subs;omega)
 have hK:=(qH (a_ e))
 have hown:=hs.own
 have hf:=QE (e:=e)
 have ht:= @QF e
 have hok:zn e=(ai e && decide (e.state=2) && !decide ((gV e.subs).length=0)):=rfl
 obtain⟨R,hR⟩:∃ R,R=tellAddrs e:=⟨_,rfl⟩
 rw [<-hR] at hf ht
 rw [<-hR]
 clear hR
 refine jG func157 ntmps157 results157 fun E hE=>?_
 refine qK (hN) (qI 0 7) ?_
 refine qK (hK) (qI 0 7) ?_
 refine qB (fun h1=>?_) fun h1=>?_
 ·refine qB (fun h2=>?_) fun h2=>?_
  ·by_cases h3:(gV e.subs).length=0
   ·rw [hf (by rw [hok];simp [h3])]
    try simp (disch:=omega) only [go_sem,seval,h3]
    exact dH (qI 0 7++qI 8 1)
   have hpos:0 < (gV e.subs).length:=zO
   have hk:=tB hpos
   have hR:=ht (by rw [hok];simp [h1,h2,h3]) (AD hpos) hk
   have hgo:=aQ (enc:=mf) hpos
   generalize hk0:(gV e.subs)[0]=k0 at*
   have hgs:=aQ (enc:=SubD.cs) hk
   generalize hss:e.subs[k0]=s0 at*
   refine qX ?_
   refine qD [0,1,2,3,4,5,6,7,8] ?_
   try simp (disch:=omega) only [go_sem,seval,hgo,hk0,mf,hgs,hss]
   refine qG ?_
   have hU:=zq e.own hown
   have hul:(nX e.own).length<=e.own.length:=R5 _ _
   have hmem:∀ a∈nX e.own,a∈e.own:=fun a ha=>(List.mem_filter.1 ha).1
   generalize nX e.own=U at*
   refine qK (hU) (qI 0 1) ?_
   refine tx 7 hE (fun s (y:Nat×List LetterD)=>s.at (qU [0,1,4,1,8,69]) [(7,.sc (.int .i64 (y.1:Nat))),(5,.sc (.pt 9 0 0)),(6,.sc (.sl 10 0 U.length)),(3,.sc (.sl 11 0 y.2.length))] ((s.hp.take 8)++(((s.hp.drop 9).take 3)++[some ⟨y.2.map LetterD.cs,19,73,true,true⟩]))) (fun (y:Nat×List LetterD)=>y.1<=U.length/\y.2.length<=y.1/\R=y.2++(U.drop y.1).map (lN e s0)) (fun (y:Nat×List LetterD)=>U.length - y.1) (0,[]) (qI 0 8++qI 9 3++qI 8 1) (⟨RQ _,RQ _,hR⟩) fun y hy N hN=>?_
   obtain⟨i,l⟩:=y
   obtain⟨g1,g2,g3⟩:=hy
   dsimp only at g1 g2 g3
   refine qR ?_
   refine qB (fun b=>?_) fun b=>?_
   ·rw [RS b,RY] at g3
    have hbl:i < (U.map AddrD.id).length:=by simpa using b
    have hg:=aQ (enc:=bh) hbl
    rw [List.getElem_map] at hg
    obtain⟨j,hj,hat,hja⟩:=F7 (Ea h1) (hmem U[i] (R7 b))
    have hA:=eJ e.own U[i].id hown
    rw [hat] at hA
    have hgj:=aQ (enc:=AddrD.cs) hj
    rw [hja] at hgj
    generalize hae:U[i]=a at*
    simp only [bh] at hg
    have hel:e.own[j]=a:=hja
    refine qX ?_
    refine bO [(8,11),(11,9),(11,10)] [(8,9),(9,10)] [(qU [0,9,11,1,9,2,12,1]),(qU [0,10,11,1,10,1,12,1]),(qU [0,13]),(qU [0,8,11,1,8,3,12,1])] 7 hE (fun s=>s.at (qU [42,11]) [(8,.sc (.pt 12 0 0))] (s.hp++[some ⟨[a.cs],4,69,true,false⟩])) (by kernel_rfl) (qC) (by kernel_rfl) ?_ (ae 400 ?_)
    rotate_left
    rotate_right
    simp only [bf]
    refine⟨aa 400 ?_,aa 400 ?_,aa 400 ?_,aa 400 ?_⟩
    ·simp (disch:=omega) only [go_sem,hg,hae]
     refine aE (hA) (qI 0 1) ?_
     simp (disch:=omega) only [go_sem,hgj,hel]
     refine⟨by (try simp (disch:=omega) only [go_sem,RU,seval,hgj,hel])<;>omega,(qI 0 13),ac zF zF ?_⟩
     try simp (disch:=omega) only [go_sem,seval]
    ·simp (disch:=omega) only [go_sem,hg,hae]
     refine aE (hA) (qI 0 1) ?_
     simp (disch:=omega) only [go_sem,hgj,hel]
     refine⟨by (try simp (disch:=omega) only [go_sem,RU,seval,hgj,hel])<;>omega,(qI 0 13),ac zF zF ?_⟩
     try simp (disch:=omega) only [go_sem,seval]
    ·simp (disch:=omega) only [go_sem,hg,hae]
     refine aE (hA) (qI 0 1) ?_
     simp (disch:=omega) only [go_sem,hgj,hel]
     refine⟨by (try simp (disch:=omega) only [go_sem,RU,seval,hgj,hel])<;>omega,(qI 0 13),ac zF zF ?_⟩
     try simp (disch:=omega) only [go_sem,seval]
    ·simp (disch:=omega) only [go_sem,hg,hae]
     refine aE (hA) (qI 0 1) ?_
     simp (disch:=omega) only [go_sem,hgj,hel]
     refine⟨by (try simp (disch:=omega) only [go_sem,RU,seval,hgj,hel])<;>omega,(qI 0 13),ac zF zF ?_⟩
     try simp (disch:=omega) only [go_sem,seval]
    refine qX ?_
    refine qD [0,1,2,3,4,5,6,7,8,9,10,11,12,13,14,15,16,17,18,19,20,21,22,23,24] ?_
    refine aE (rR e.key e.peer a.id a.addr) [] ?_
    refine aE (bC s0.road { af with kind:=8,tag:=⟨3,e.key,e.peer,a.id,a.addr⟩,sgn:=s0.give,id:=a.id,addr:=a.addr,spare:=a.spare }) [] ?_
    refine qG ?_
    refine⟨qC,hN _ (i+1,l++[lN e s0 a]) (qI 0 11++qI 14 1) (by (try dsimp only);exact⟨zO,by simp;omega,by simpa using g3⟩) (by (try dsimp only);omega) (ac zF zF ?_)⟩
    refine qX ?_
    rw [R2]
    rfl
   rw [RZ zO,Sk,RX] at g3
   subst g3
   refine qX ?_
   exact dH (qI 0 7++qI 11 1)
  rw [hf (by rw [hok];simp [h2])]
  refine qX ?_
  exact dH (qI 0 7++qI 8 1)
 rw [hf (by rw [hok];simp [h1])]
 refine qX ?_
 exact dH (qI 0 7++qI 8 1)
def dC {α:Type} (f:α->α) (l:List α) (k:Nat):List α:=(l.take k).map f++l.drop k
theorem AF {α:Type} {f:α->α} {l:List α} {k:Nat}:(dC f l k).length=l.length:=by simp [dC];omega
theorem Lw {α:Type} {f:α->α} {l:List α} {k:Nat} (h:k < l.length):(dC f l k)[k]? =some l[k]:=by
 have h1:((l.take k).map f).length=k:=by simp;omega
 rw [dC,List.getElem?_append_right zO,RS h,h1]
 simp
theorem AG {α:Type} {f:α->α} {l:List α} {k:Nat} (h:k < l.length):∀ p:k < (dC f l k).length,(dC f l k)[k]'p=l[k]:=by
 intro p
 have hq:=Lw (f:=f) h
 rw [R6 p] at hq
 exact Option.some.inj hq
theorem AH {α:Type} {f:α->α} {l:List α} {k:Nat} (h:k < l.length):(dC f l k).set k (f l[k])=dC f l (k+1):=by
 have h1:((l.take k).map f).length=k:=by simp;omega
 rw [dC,dC,List.set_append_right _ _ zO,RW h,R2,h1]
 simp
 rw [RS h]
 rfl
theorem xE {α:Type} {f:α->α} {l:List α} {k:Nat} (h:k < l.length) (hs:f l[k]=l[k]):dC f l (k+1)=dC f l k:=by
 rw [dC,dC,RW h,R2,RS h]
 simp [hs]
theorem xF {α:Type} {f:α->α} {l:List α}:dC f l 0=l:=by simp [dC]
theorem AI {α:Type} {f:α->α} {l:List α}:dC f l l.length=l.map f:=by simp [dC]
theorem AJ {α:Type} {p:α->Bool} {l:List α} {k:Nat} (h:k < l.length):(l.drop k).all p=(p l[k] && (l.drop (k+1)).all p):=by
 rw [RS h,Sn]
theorem xG {α β:Type} {f:α->List β} {l:List α} {k:Nat} (h:k < l.length):(l.drop k).flatMap f=f l[k]++(l.drop (k+1)).flatMap f:=by
 rw [RS h,Sp]
theorem oV (e:EndD) (s:SubD):(tickL e s).length<=1:=by
 rw [tickL];split
 ·split
  ·simp
  split
  ·simp
  split<;>simp
 simp
theorem sF {α β:Type} {f:α->List β} (hf:∀ a,(f a).length<=1):∀ (l:List α),(l.flatMap f).length<=l.length
 |[]=>by simp
 |a::l=>by
  have h1:=hf a
  have h2:=sF hf l
  rw [Sp,RT,Sj]
  omega
theorem q8 (l:List HalfD) (n:Int):(ci l n).length<=l.length:=R5 _ _
theorem mJ (e:EndD):(tellAddrs e).length<=e.own.length:=by
 rw [tellAddrs];split
 ·rw [Sl];exact R5 _ _
 simp
theorem oW {e:EndD} (h:ai e=true) {k:Nat} (hk:k < e.subs.length):1<=e.subs[k].state/\e.subs[k].state<=4/\0<=e.subs[k].tries/\e.subs[k].tries<=1000000000:=by
 have h1:fG (dj e.subs) e.subs.length=true:=by
  simp only [ai,RP] at h
  simp_all
 have h2:=ji h1 hk
 simp only [dj,cI hk,cv,gp,Sn,Sw,RP,decide_eq_true_eq] at h2
 omega
theorem Lx {e:EndD} (h:yQ e=false):tick e=(e,[]):=if_neg (by simp [h])
theorem F8 {e:EndD} (h:yQ e=true) (h2:e.state=2):tick e=bu { tick0 e with subs:=e.subs.map tickS } (e.subs.flatMap (tickL e)):=by rw [tick,if_pos h,if_pos h2]
theorem F9 {e:EndD} (h:yQ e=true) (h2:¬ e.state=2):tick e=bu (tick0 e) []:=by rw [tick,if_pos h,if_neg h2]
theorem Ly {e:EndD} {tk:SubD->SubD} {tl:SubD->List LetterD} (h:yQ e=true) (h1:tk=fun s=>if e.state=2 then tickS s else s) (h2:tl=fun s=>if e.state=2 then tickL e s else []):
  tick e=bu { e with now:=e.now+1,bucket:=cW e.bucket,halfs:=ci e.halfs (e.now+1),out:=dQ e.out,subs:=e.subs.map tk } (e.subs.flatMap tl):=by
 by_cases hs:e.state=2
 ·have a1:tk=tickS:=by rw [h1];funext s;exact if_pos hs
  have a2:tl=tickL e:=by rw [h2];funext s;exact if_pos hs
  rw [F8 h hs,a1,a2];rfl
 have a1:tk=fun s=>s:=by rw [h1];funext s;exact if_neg hs
 have a2:tl=fun s=>[]:=by rw [h2];funext s;exact if_neg hs
 have e1:e.subs.flatMap (fun s:SubD=>([]:List LetterD))=[]:=by simp
 have e2:e.subs.map (fun s:SubD=>s)=e.subs:=by simp
 rw [F9 h hs,a1,a2,e1,e2];rfl
theorem Lz {f:SubD->SubD} (h:∀ s,f s=s) (l:List SubD) (k:Nat):dC f l k=l:=by
 have hf:f=fun s=>s:=funext h
 rw [dC,hf];simp
theorem xH {s:SubD} (h:¬ (s.state=1\/s.state=2)):tickS s=s:=if_neg h
theorem xI {e:EndD} {s:SubD} (h:¬ (s.state=1\/s.state=2)):tickL e s=[]:=if_neg h
theorem xJ {s:SubD} (h:s.state=2) (h2:9<=s.tries+1):tickS s={ s with tries:=s.tries+1,state:=4 }:=by rw [tickS,if_pos (.inr h),if_pos ⟨h,h2⟩]
theorem xK {e:EndD} {s:SubD} (h:s.state=2) (h2:9<=s.tries+1):tickL e s=[]:=by rw [tickL,if_pos (.inr h),if_pos ⟨h,h2⟩]
theorem Eb {s:SubD} (h:s.state=1\/s.state=2) (h2:¬ (s.state=2/\9<=s.tries+1)):tickS s={ s with tries:=s.tries+1 }:=by rw [tickS,if_pos h,if_neg h2]
theorem xL {e:EndD} {s:SubD} (h:s.state=1\/s.state=2) (h2:¬ (s.state=2/\9<=s.tries+1)) (h3:¬ (s.tries+1).tmod 3=0):tickL e s=[]:=by rw [tickL,if_pos h,if_neg h2,if_pos h3]
theorem AK {e:EndD} {s:SubD} (h:s.state=1) (h3:(s.tries+1).tmod 3=0):tickL e s=[dB e s]:=by rw [tickL,if_pos (.inl h),if_neg zO,if_neg (by simp [h3]),if_pos h]
theorem uX {e:EndD} {s:SubD} (h:s.state=2) (h2:¬ 9<=s.tries+1) (h3:(s.tries+1).tmod 3=0):tickL e s=[bq e s]:=by rw [tickL,if_pos (.inr h),if_neg zO,if_neg (by simp [h3]),if_neg zO]
theorem sG (e:EndD) (l:List LetterD) (hs:Small e) (ht:e.out.text.length<=1048576) (hl:l.length<=1048576):aP 126 [.ag (e.cs 0),.sc (.sl 7 0 l.length)] (e.hp true++[some ⟨l.map LetterD.cs,19,73,true,true⟩])
  (.tu [.ag ((bu e l).1.cs 8),.sc (.sl 15 0 (bu e l).2.length)]) ((nH 8)++((bu e l).1.hp true++[some ⟨(bu e l).2.map LetterD.cs,19,73,true,true⟩])):=by
 have hT:=xC e hs
 have hTl:=mJ e
 have hso:=hs.own
 have hP:=zo e hs ht
 have hPl:=oU (k:=3) (e:=e)
 rw [bu]
 generalize tellAddrs e=T at*
 generalize pushN 3 e=Q at*
 obtain⟨e1,l1⟩:=Q
 dsimp only at hP hPl⊢
 refine jG func126 ntmps126 results126 fun E hE=>?_
 refine qK (hT) (qI 0 7) ?_
 refine qK (hP) (qI 0 7) ?_
 refine bO [(0,3)] [] [[1,2,0,3,4,5],[1,2,3,0,4,5]] 8 hE (fun s=>s.at (qU [1,1,7,6,15,6]) [(5,.sc (.sl 21 0 (l.length+T.length+l1.length)))] (((s.hp.set 9 (some ⟨[[.int .i64 e1.side,.int .i64 e1.state,.int .i64 e1.key,.int .i64 e1.peer,.int .i64 e1.policy.kind,.int .i64 e1.policy.many,.sl 12 0 e1.own.length,.sl 13 0 e1.far.length,.sl 14 0 e1.subs.length,.sl 15 0 e1.halfs.length,.int .i64 e1.bucket.rate,.int .i64 e1.bucket.burst,.int .i64 e1.bucket.cur,.st e1.out.text,.int .i64 e1.out.base,.int .i64 e1.out.sent,.int .i64 e1.out.room,.int .i64 e1.inp.read,.st e1.inp.ready,.sl 16 0 e1.inp.list.length,.sl 17 0 e1.done.length,.sl 18 0 e1.over.length,.int .i64 e1.draw,.int .i64 e1.now,.int .i64 e1.pick]],25,38,true,false⟩)).set 11 none)++[some ⟨(l++T++l1).map LetterD.cs,19,73,true,true⟩])) (by kernel_rfl) (qC) (by kernel_rfl) ?_ (ae 400 ?_)
 rotate_left
 rotate_right
 simp only [bf]
 refine⟨aa 400 ?_,aa 400 ?_⟩
 ·simp (disch:=omega) only [go_sem]
  refine⟨qC,(qI 0 22),ac zF zF ?_⟩
  try simp (disch:=omega) only [go_sem,seval]
  repeat' first|rfl|constructor|(intro _;rfl)|(simp only [R2,R0,RT,Su];done)
 ·simp (disch:=omega) only [go_sem]
  refine⟨qC,(qI 0 22),ac zF zF ?_⟩
  try simp (disch:=omega) only [go_sem,seval]
  repeat' first|rfl|constructor|(intro _;rfl)|(simp only [R2,R0,RT,Su];done)
 refine qX ?_
 refine cY (qI 0 8++qI 12 7++qI 21 1) (qC) _ (by simp only [go_sem];rfl) zF zF ?_
 simp (disch:=omega) only [go_sem,seval]
 try simp
 try omega
def wroteB (w:WorldD) (side:Int) (t u:List UInt8):WorldD:=if side=1 then { w with wroteA:=w.wroteA++t,readA:=w.readA++u } else { w with wroteB:=w.wroteB++t,readB:=w.readB++u }
theorem Ec (w:WorldD) (side:Int) (t:List UInt8):wroteB w side t []=eT w side t:=by
 rw [wroteB,eT];split<;>simp
theorem Ed (w:WorldD) (side:Int) (t:List UInt8):wroteB w side [] t=cj w side t:=by
 rw [wroteB,cj];split<;>simp
structure SmallS (w:WorldD):Prop where
 wa:w.wroteA.length<=1099511627776
 wb:w.wroteB.length<=1099511627776
 ra:w.readA.length<=1099511627776
 rb:w.readB.length<=1099511627776
theorem jk (w:WorldD) (side:Int) (t u:List UInt8) (h:SmallS w) (ht:t.length<=1048576) (hu:u.length<=1048576):aP 105 [.ag (w.cs 0),.sc (.int .i64 side),.sc (.st t),.sc (.st u)] (w.hp false) (.ag ((wroteB w side t u).cs 0)) (w.hp false):=by
 have h1:=h.wa
 have h2:=h.wb
 have h3:=h.ra
 have h4:=h.rb
 obtain⟨R,hR⟩:∃ R,R=wroteB w side t u:=⟨_,rfl⟩
 rw [<-hR]
 rw [wroteB] at hR
 refine qE func105 ntmps105 results105 fun E hE=>?_
 refine qB (fun b=>?_) fun b=>?_
 ·rw [if_pos b] at hR
  subst hR
  refine qX ?_
  exact qF (qI 0 21)
 rw [if_neg b] at hR
 subst hR
 refine qX ?_
 exact qF (qI 0 21)
theorem uY (l:List LetterD) (k:Nat) (hl:l.length<=1048576) (hk:k < l.length):aP 117 [.sc (.sl 0 0 l.length),.sc (.int .i64 (k:Nat))] [some ⟨l.map LetterD.cs,19,73,false,true⟩] (.sc (.sl 1 0 (l.length - 1))) [some ⟨l.map LetterD.cs,19,73,false,true⟩,some ⟨(l.take k++l.drop (k+1)).map LetterD.cs,19,73,true,true⟩]:=by
 have hlt:(l.take k).length=k:=by simp;omega
 have hlt2:(List.take k (List.map LetterD.cs l)).length=k:=by simp;omega
 refine qE func117 ntmps117 results117 fun E hE=>?_
 refine qX ?_
 refine aK (qI 0 1++qI 3 1) (qC) _ (by simp only [go_sem];rfl) zF zF ?_
 simp (disch:=omega) only [go_sem,seval]
 try rw [<-List.map_take]
 exact⟨zO,(oJ hk).2⟩
theorem Jq {e:EndD} (h:ai e=true):e.own.length<=6:=by
 simp only [ai,RP] at h
 exact mr (by simp_all)
theorem RD {e:EndD} {a:AddrD} (h:F4 e a=false):aR e a=(e,false):=by rw [aR,if_neg (by simp [h])]
theorem RE {e:EndD} {a:AddrD} (h:F4 e a=true):aR e a=({ e with own:=(aS e.own { a with told:=false }).1 },(aS e.own { a with told:=false }).2):=by rw [aR,if_pos h]
theorem QG {e:EndD} {a:AddrD} (h:(aS e.own { a with told:=false }).2=false):aR e a=(e,false):=by
 rw [aR];split
 ·have:aS e.own { a with told:=false }=(e.own,false):=by
   rw [aS] at h⊢;split
   ·rename_i hh;rw [if_pos hh] at h;cases h
   rfl
  rw [this]
 rfl
theorem kU (e:EndD) (a:AddrD) (hs:Small e):aP 110 [.ag (e.cs 0),.ag a.cs] (e.hp false) (.tu [.ag ((aR e a).1.cs 7),.sc (.bo (aR e a).2)]) (e.hp false++(aR e a).1.hp true):=by
 have hC:=(qH (aA e))
 have hK:=(qH (a_ e))
 have hA:=eJ e.own a.id (by have:=hs.own;omega)
 have hH:=gX e.done a.id (by have:=hs.done;omega)
 have hP:=fun h=>jS e.own { a with told:=false } h
 have hf:=RD (e:=e) (a:=a)
 have ht:=RE (e:=e) (a:=a)
 have ht2:=QG (e:=e) (a:=a)
 have hok:F4 e a=(ai e && decide (aW e.own a.id < 0) && !m8 e.done a.id):=rfl
 generalize aR e a=R at*
 generalize aS e.own { a with told:=false }=pa at*
 obtain⟨own1,ok1⟩:=pa
 dsimp only at hP ht ht2
 refine jG func110 ntmps110 results110 fun E hE=>?_
 refine qK (hC) (qI 0 7) ?_
 refine qK (hP (by have:=hs.own;omega)) (qI 0 1) ?_
 refine qK (hK) (qI 0 7) ?_
 refine qB (fun b1=>?_) fun b1=>?_
 ·cases ok1 with
  |false=>
   rw [ht2 rfl]
   refine qX ?_
   exact dH (qI 0 7++qI 10 7)
  |true=>
   refine qX ?_
   refine qK (hA) (qI 0 1) ?_
   refine qB (fun b2=>?_) fun b2=>?_
   ·refine qK (hH) (qI 5 1) ?_
    refine qB (fun b3=>?_) fun b3=>?_
    ·rw [hf (by rw [hok];simp [b3])]
     refine qX ?_
     exact dH (qI 0 7++qI 10 7)
    rw [ht (by rw [hok,b1,decide_eq_true zO,b3];rfl)]
    refine qX ?_
    exact dH (qI 0 7++qI 18 1++qI 11 6)
   rw [hf (by rw [hok,decide_eq_false zO];simp)]
   refine qX ?_
   exact dH (qI 0 7++qI 10 7)
 rw [hf (by simp [hok,b1])]
 refine qX ?_
 exact dH (qI 0 7++qI 10 7)
def AQ (P:Program) (f:FuncId) (args:List AV) (h:Hp) {α:Type} (G:α->Prop) (res:α->AV) (h':α->Hp):Prop:=
 vS P f/\∀ β w vs,HSim β h w->L2 (gm β) args vs->Calls P f vs.toArray w fun e w'=>∃ x,G x/\∃ β' v,e=.returned v/\gm β' (res x) v/\HSim β' (h' x) w'/\StepR β β' h (h' x) w w'
theorem fL.x {P:Program} {f:FuncId} {args:List AV} {h:Hp} {α:Type} {G:α->Prop} {res:α->AV} {h':α->Hp} (x:α) (hx:G x) (ct:fL P f args h (res x) (h' x)):AQ P f args h G res h':=
 ⟨ct.1,fun β w vs h1 h2=>(ct.2 β w vs h1 h2).mono fun e w' hh=>⟨x,hx,hh⟩⟩
theorem LA {P:Program} {E:Entry} {f:FuncId} {args0 avs:List AV} {h0 s:Hp} {α:Type} {G:α->Prop} {res:α->AV} {h':α->Hp} (ct:AQ P f args0 h0 G res h') (ρ:cP) (hargs:pU ρ args0 avs) (hm:kJ ρ s ρ h0) (hsep:et ρ h0=true):
  zW P E f avs s fun r hp=>∃ x,G x/\r=kL ρ s.length (res x)/\hp=ew ρ h0 (h' x) s:=
 ⟨ct.1,fun β w vs _ _ hs hvs=>(ct.2 _ w vs (vW hs hm hsep) (Fv hargs hvs)).mono fun e w' ⟨x,hx,h⟩=>
  ⟨_,_,⟨x,hx,rfl,rfl⟩,wc (P:=P) ρ hargs hm hsep hs hvs h⟩⟩
theorem Gk {P:Program} {E:Entry} {f:FuncId} {args:List AV} {h:Hp} {R R':AV->Hp->Prop} (ct:zW P E f args h R) (hR:∀ r h',R r h'->R' r h'):zW P E f args h R':=
 ⟨ct.1,fun β w vs h1 h2 h3 h4=>(ct.2 β w vs h1 h2 h3 h4).mono fun e w' ⟨r,h',g,k⟩=>⟨r,h',hR r h' g,k⟩⟩
theorem AR {P:Program} {E:Entry} {F:S->Prop} {f:FuncId} {avs:List AV} {d:Option Tmp} {k:List gg} {s:S} {c:Prop} {args0:List AV} {h0:Hp} {α:Type} {G:α->Prop} {res:α->AV} {h':α->Hp} (hc:c) (ct:AQ P f args0 h0 G res h') (ρ:cP)
  (hm:pU ρ args0 avs/\kJ ρ s.hp ρ h0) (hsep:et ρ h0=true) (hk:∀ x,G x->ik P E F (.go k (s.put d (some (kL ρ s.hp.length (res x))) (ew ρ h0 (h' x) s.hp)) True)):ik P E F (.call f avs d k s c):=
 ⟨hc,Gk (LA ct ρ hm.1 hm.2 hsep) fun r hp ⟨x,hx,hr,hh⟩=>by subst hr;subst hh;exact (hk x hx).2⟩
def Pb (P:Program) (rs:List ResultVar) (n0:Nat) {α:Type} (G:α->Prop) (res:α->AV) (h':α->Hp) (s:S):Prop:=∃ x,G x/\FI P rs n0 (res x) (h' x) s
theorem Er {P:Program} {E:Entry} {rs:List ResultVar} {n0:Nat} {α:Type} {G:α->Prop} {res:α->AV} {h':α->Hp} {s:S} {c:Prop} (x:α) (hx:G x) (ρ:cP) (hc:c) (v:AV) (hr:pX P s rs=some v) (hid:Hy n0 0 ρ (h' x)=true) (hsep:et ρ (h' x)=true) (hm:C0 ρ (res x) v/\kJ ρ s.hp ρ (h' x)):
  ik P E (Pb P rs n0 G res h') (.fin s c):=⟨hc,x,hx,v,ρ,hr,hid,hsep,hm.1,hm.2⟩
theorem Es {P:Program} {f:FuncId} {fn:Func} {c:Code} (hf:P.funcs[f]? =some fn) (hname:(fn.name == "runtime.NumGoroutine")=false) (hb:fn.body=some c) {args:List AV} {h:Hp} {α:Type} {G:α->Prop} {res:α->AV} {h':α->Hp}
  (H:∀ E:Entry,E.h.length=h.length->ik P E (Pb P fn.results.toList h.length G res h') (.go [.code c] ⟨nr fn.ntmps args,h⟩ True)):AQ P f args h G res h':=by
 refine⟨⟨fn,hf,hname,by rw [hb];rfl⟩,fun β w vs hs hvs=>?_⟩
 refine calls_of_wp hf hb ?_
 let E:Entry:=⟨β,h,w⟩
 have hd:=(H E rfl).2
 refine hd β _ w ⟨rfl,vy hvs,hs,hs.len,StepR.refl β h w hs.len⟩ _ fun e s' β' a' w' hK hs'=>?_
 have key:Pb P fn.results.toList h.length G res h' s'->a'.defers=[]/\∃ v,(results fn a'.tmps).run P w'=.ok v w'/\∃ x,G x/\∃ β'' u,Ending.returned v=.returned u/\gm β'' (res x) u/\HSim β'' (h' x) w'/\StepR β β'' h (h' x) w w':=by
  intro⟨x,hx,v,ρ,hr,hid,hsep,hav,hhp⟩
  obtain⟨u,hrun,hu⟩:=BA hs'.hp hs'.sl hr
  have hsim:=tv (E:=E) rfl (t:=⟨[],h' x⟩) (s:=⟨[],s'.hp⟩) ⟨hid,hsep,trivial,hhp⟩ (β:=β') (a:=a') (w:=w') ⟨hs'.dfr,⟨fun i hi=>by simp [Slots.has] at hi,fun i x hx=>by simp [Slots.get] at hx⟩,hs'.hp,hs'.ent,hs'.st⟩
  exact⟨hs'.dfr,u,hrun,x,hx,fg β' ρ,u,rfl,zX hav hu,hsim.hp,hsim.st⟩
 cases e with
 |normal=>exact key hK
 |ret=>exact key hK
 |_=>exact hK.elim
theorem tY {a:ActD} (h:cN a=true):0<=a.pos:=by
 simp only [cN,gp,cv,RP,decide_eq_true_eq] at h
 omega
end
end Go.Proofs.YteknmpdmhiomgaaGreat
