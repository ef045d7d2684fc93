/- Lemmas of this claim. -/
import Derived.Test.YtdiiopjaebnmfaaGreatZFnBaseC
set_option maxHeartbeats 16000000
set_option maxRecDepth 100000
set_option linter.unusedVariables false
set_option linter.unusedSimpArgs false
namespace Go.Proofs.YtdiiopjaebnmfaaGreat
open _root_.Go.Proofs.Tryz
open _root_.List renaming take_succ_eq_append_getElem->KZ,drop_eq_getElem_cons->K0,getElem?_eq_getElem->K1,take_of_length_le->K2,map_append->K3
section
open Go.RowKit
theorem HO {cs:List Value} (h:kI [.byte] cs):∃ n:UInt8,L2 (ScR []) (dL n) cs/\True:=by
 obtain⟨_,_,rfl,⟨n,rfl,h0,h1⟩,rfl⟩:=h
 refine⟨UInt8.ofNat n.toNat,⟨?_,trivial⟩,trivial⟩
 show Value.int .u8 n=.int .u8 ((UInt8.ofNat n.toNat).toNat:Nat)
 congr 1
 rw [UInt8.toNat_ofNat']
 omega
structure CurD where
 i:Nat
 h:Int
def CurD.cs (c:CurD) (b:List UInt8):List Sc:=[.sl 0 0 b.length,.int .i64 (c.i:Nat),.int .i64 c.h]
def CurD.hp (c:CurD) (b:List UInt8):Hp:=[some ⟨b.map dL,1,5,false,true⟩,some ⟨[c.cs b],3,83,true,false⟩]
def CurD.ok (c:CurD) (b:List UInt8):Prop:=c.i<=b.length/\b.length<=1048576
attribute [go_sem] CurD.cs CurD.hp
def kK (a b:Int):Int:=IntKind.i64.wrap (BitVec.ofInt 64 a &&& BitVec.ofInt 64 b).toNat
def Ba (a b:Int):Int:=IntKind.i64.wrap (BitVec.ofInt 64 a ^^^ BitVec.ofInt 64 b).toNat
theorem uZ (a:Int):0<=kK a 255/\kK a 255<=255:=by
 have h:(BitVec.ofInt 64 a &&& BitVec.ofInt 64 255).toNat<=255:=by
  rw [BitVec.toNat_and]
  exact Nat.le_trans Nat.and_le_right zD
 have e:kK a 255=((BitVec.ofInt 64 a &&& BitVec.ofInt 64 255).toNat:Int):=yD (by
  have h':(BitVec.ofInt 64 a &&& BitVec.ofInt 64 255).toNat<=255:=h
  omega)
 rw [e]
 omega
def CurD.nxt (c:CurD):Int:=IntKind.i64.wrap (IntKind.i64.wrap (c.h*6364136223846793005)+1442695040888963407)
def CurD.x0 (c:CurD):Int:=kK (Ba (c.nxt.fdiv (2 ^ min 33 64)) (c.nxt.fdiv (2 ^ min 45 64))) 255
def CurD.bv (c:CurD) (b:List UInt8):Int:=if h:c.i < b.length then kK (IntKind.i64.wrap (c.x0+b[c.i].toNat)) 255 else c.x0
def CurD.bn (c:CurD) (b:List UInt8):CurD:=if c.i < b.length then⟨c.i+1,c.nxt⟩ else⟨c.i,c.nxt⟩
theorem CurD.bv_le (c:CurD) (b:List UInt8):0<=c.bv b/\c.bv b<=255:=by
 rw [CurD.bv]
 split
 ·exact uZ _
 exact uZ _
theorem CurD.bn_ok {c:CurD} {b:List UInt8} (h:c.ok b):(c.bn b).ok b:=by
 rw [CurD.bn]
 split
 ·rename_i hi;exact⟨hi,h.2⟩
 exact h
theorem lV (a b:Int):wj .and .i64 a b=some (.int .i64 (kK a b),True):=rfl
theorem qe (a b:Int):wj .xor .i64 a b=some (.int .i64 (Ba a b),True):=rfl
theorem Gr (c:CurD):IntKind.i64.wrap (IntKind.i64.wrap (c.h*6364136223846793005)+1442695040888963407)=c.nxt:=rfl
theorem Ea (c:CurD):kK (Ba (c.nxt.fdiv (2 ^ min 33 64)) (c.nxt.fdiv (2 ^ min 45 64))) 255=c.x0:=rfl
theorem dR (b:List UInt8) (c:CurD) (hc:c.ok b):aP 69 [.sc (.pt 1 0 0)] (c.hp b) (.sc (.int .i64 (c.bv b))) ((c.bn b).hp b):=by
 have hi:=hc.1
 have hb:=hc.2
 refine jB func69 (by kernel_rfl) rfl fun E hE=>af 400 ?_
 simp (disch:=omega) only [ntmps69,results69,go_sem,↓lV,↓qe,seval]
 simp only [Gr]
 refine kh (qU [0,13]) (by kernel_rfl) (qC) (by kernel_rfl) (aa 400 ?_)
 simp (disch:=omega) only [go_sem,↓lV,↓qe,seval]
 simp only [Ea]
 have hx:=uZ (Ba (c.nxt.fdiv (2 ^ min 33 64)) (c.nxt.fdiv (2 ^ min 45 64)))
 rw [Ea] at hx
 have e1:c.bv b=if h:c.i < b.length then kK (IntKind.i64.wrap (c.x0+b[c.i].toNat)) 255 else c.x0:=by rw [CurD.bv]
 have e2:(c.bn b)=if c.i < b.length then⟨c.i+1,c.nxt⟩ else⟨c.i,c.nxt⟩:=by rw [CurD.bn]
 generalize c.x0=x0 at*
 generalize c.nxt=nx at*
 refine qG ?_
 refine qD [0,1,2,3,4,5,6,7,8,9] ?_
 refine qG ?_
 refine qB (fun h=>?_) fun h=>?_
 ·have hbn:=b[c.i].toNat_lt
  rw [dif_pos h,yD zO] at e1
  rw [if_pos h] at e2
  rw [e1,e2]
  refine kh (qU [0,15]) (by kernel_rfl) (qC) (by kernel_rfl) (aa 400 ?_)
  simp (disch:=omega) only [go_sem,dL,↓lV,↓qe,seval]
  generalize kK (x0+b[c.i].toNat) 255=y
  refine qG ?_
  exact qF (qI 0 2)
 rw [dif_neg h] at e1
 rw [if_neg h] at e2
 rw [e1,e2]
 exact qF (qI 0 2)
def CurD.below (c:CurD) (b:List UInt8) (n:Int):Int×CurD:=
 if n<=0 then (0,c) else if n<=256 then ((c.bv b).tmod n,(c.bn b)) else ((c.bv b*16777216+(c.bn b).bv b*65536+((c.bn b).bn b).bv b*256+(((c.bn b).bn b).bn b).bv b).tmod n,(((c.bn b).bn b).bn b).bn b)
theorem CurD.below_ok {b:List UInt8} {c:CurD} (h:c.ok b) (n:Int):(c.below b n).2.ok b:=by
 rw [CurD.below]
 split
 ·exact h
 split
 ·exact CurD.bn_ok h
 exact CurD.bn_ok (CurD.bn_ok (CurD.bn_ok (CurD.bn_ok h)))
theorem CurD.below_lt (c:CurD) (b:List UInt8) {n:Int} (h:0 < n):0<=(c.below b n).1/\(c.below b n).1 < n:=by
 have t:∀ m:Int,0<=m->0<=m.tmod n/\m.tmod n < n:=fun m hm=>⟨Int.tmod_nonneg _ hm,Int.tmod_lt_of_pos _ h⟩
 have h0:=c.bv_le b
 have h1:=(c.bn b).bv_le b
 have h2:=((c.bn b).bn b).bv_le b
 have h3:=(((c.bn b).bn b).bn b).bv_le b
 rw [CurD.below,if_neg zO]
 split
 ·exact t _ h0.1
 exact t _ zO
theorem ac (b:List UInt8) (c:CurD) (hc:c.ok b) (n:Int):aP 47 [.sc (.pt 1 0 0),.sc (.int .i64 n)] (c.hp b) (.sc (.int .i64 (c.below b n).1)) ((c.below b n).2.hp b):=by
 have h0:=c.bv_le b
 have h1:=(c.bn b).bv_le b
 have h2:=((c.bn b).bn b).bv_le b
 have h3:=(((c.bn b).bn b).bn b).bv_le b
 have k1:=CurD.bn_ok hc
 have k2:=CurD.bn_ok k1
 have k3:=CurD.bn_ok k2
 obtain⟨r,hr⟩:∃ r,r=c.below b n:=⟨_,rfl⟩
 rw [<-hr]
 rw [CurD.below] at hr
 refine qE func47 ntmps47 results47 fun E hE=>?_
 refine qB (fun h=>?_) fun h=>?_
 ·rw [if_pos zO] at hr
  subst hr
  exact qF (qI 0 2)
 rw [if_neg zO] at hr
 refine qB (fun h4=>?_) fun h4=>?_
 ·rw [if_pos zO] at hr
  refine qK (dR b c hc) (qI 0 2) ?_
  subst hr
  exact qF (qI 0 2)
 rw [if_neg zO] at hr
 refine qK (dR b c hc) (qI 0 2) ?_
 refine qK (dR b (c.bn b) k1) (qI 0 2) ?_
 refine qK (dR b ((c.bn b).bn b) k2) (qI 0 2) ?_
 refine qK (dR b (((c.bn b).bn b).bn b) k3) (qI 0 2) ?_
 subst hr
 exact qF (qI 0 2)
theorem bX (b:List UInt8) (c:CurD) (hc:c.ok b) (n:Int):aP 68 [.sc (.pt 1 0 0),.sc (.int .i64 n)] (c.hp b) (.sc (.bo ((c.below b n).1 == 0))) ((c.below b n).2.hp b):=by
 refine qE func68 ntmps68 results68 fun E hE=>?_
 refine qK (ac b c hc n) (qI 0 2) ?_
 exact qF (qI 0 2)
def CurD.pick (c:CurD) (b:List UInt8) (l:List Int):Int:=l.getD (c.below b l.length).1.toNat 0
theorem ax (b:List UInt8) (c:CurD) (hc:c.ok b) (l:List Int) (h0:0 < l.length) (hl:l.length<=1000):aP 28 [.sc (.pt 1 0 0),.sc (.sl 2 0 l.length)] (c.hp b++[some ⟨l.map cv,1,3,false,true⟩]) (.sc (.int .i64 (c.pick b l))) (((c.below b l.length).2.hp b)++[some ⟨l.map cv,1,3,false,true⟩]):=by
 have hb:=c.below_lt b (n:=(l.length:Int)) zO
 have hp:c.pick b l=l.getD (c.below b l.length).1.toNat 0:=rfl
 have hk:=ac b c hc l.length
 rw [hp]
 generalize c.below b l.length=r at*
 obtain⟨v,c1⟩:=r
 dsimp only at hb hk⊢
 obtain⟨k,rfl⟩:=Int.eq_ofNat_of_zero_le hb.1
 refine qE func28 ntmps28 results28 fun E hE=>?_
 refine qK (hk) (qI 0 2) ?_
 have hlt:k < l.length:=zO
 try simp (disch:=omega) only [go_sem,seval,wQ _ hlt]
 exact qF (qI 0 3)
theorem CurD.pick_mem (c:CurD) (b:List UInt8) {l:List Int} (h:0 < l.length):c.pick b l∈l:=by
 have hb:=c.below_lt b (n:=(l.length:Int)) zO
 rw [CurD.pick,List.getD_eq_getElem?_getD,K1 zO]
 exact List.getElem_mem _
def qf (h:Int) (x:UInt8):Int:=kK (IntKind.i64.wrap (IntKind.i64.wrap (IntKind.i64.wrap (h*131)+x.toNat)+7)) 1073741823
def Eb (b:List UInt8):Int:=(b.take 4000).foldl qf (94701+(b.length:Int))
def u6 (b:List UInt8):CurD:=⟨0,Eb b⟩
theorem Ix {b:List UInt8} (h:b.length<=1048576):(u6 b).ok b:=⟨Nat.zero_le _,h⟩
theorem B_ {b:List UInt8} {k:Nat} {h0:Int} (h:k < b.length):(b.take (k+1)).foldl qf h0=qf ((b.take k).foldl qf h0) b[k]:=by
 rw [KZ h,List.foldl_append]
 rfl
theorem Ha (b:List UInt8) (hb:b.length<=1048576):aP 20 [.sc (.sl 0 0 b.length)] [some ⟨b.map dL,1,5,false,true⟩] (.sc (.pt 1 0 0)) ((u6 b).hp b):=by
 refine qE func20 ntmps20 results20 fun E hE=>?_
 refine iK 1 hE (fun s (k:Nat)=>s.at (qU [5,23]) [(4,.sc (.int .i64 (k:Nat))),(3,.sc (.int .i64 ((b.take k).foldl qf (94701+(b.length:Int)))))] (s.hp)) (fun (k:Nat)=>k<=b.length/\k<=4000) (fun (k:Nat)=>b.length - k) 0 (qI 0 1) (qC) (⟨Nat.zero_le _,Nat.zero_le _⟩) (bM zF zF ?_) fun k hk N hN=>?_
 ·refine qX ?_
  rfl
 refine qR ?_
 refine qB (fun h1=>?_) fun h1=>?_
 ·split<;>rename_i h2<;>simp only [decide_eq_true_eq,decide_eq_false_iff_not] at h2
  ·simp (disch:=omega) only [go_sem,dL,↓lV,seval]
   refine⟨qC,hN _ (k+1) (qI 0 1) (by (try dsimp only);exact⟨zO,zO⟩) (by (try dsimp only);omega) (bM zF zF ?_)⟩
   refine qX ?_
   rw [B_ h1,yD (n:=(b[k].toNat:Int)) (by have:=b[k].toNat_lt;omega)]
   rfl
  have e:Eb b=(b.take k).foldl qf (94701+(b.length:Int)):=by
   rw [Eb,show k=4000 by omega]
  refine qX ?_
  refine qJ (qI 0 2) ?_
  rw [u6,e]
  exact⟨rfl,rfl⟩
 have e:Eb b=(b.take k).foldl qf (94701+(b.length:Int)):=by
  rw [Eb,K2 zO,K2 zO]
 refine qJ (qI 0 2) ?_
 rw [u6,e]
 exact⟨rfl,rfl⟩
def kP (w:WorldD) (side:Int) (t:List UInt8):WorldD:=if side=1 then { w with wroteA:=w.wroteA++t } else { w with wroteB:=w.wroteB++t }
def fL (w:WorldD) (side:Int) (t:List UInt8):WorldD:=if side=1 then { w with readA:=w.readA++t } else { w with readB:=w.readB++t }
def kp (w:WorldD) (x:LetterD):Bool:=di x && !decide (sideAt x.to=0) && vd w.known x.tag && [x.key,x.nonce,x.give,x.sgn].all fun n=>decide (n < 1000) || oN w.nums n
def dj (e:EndD) (a:ActD):EndD×List LetterD:=
 if a.kind=1 then writeAll e a.text else if a.kind=2 then ((b_ e a.many).1,[]) else if a.kind=3 then tick e else if a.kind=4 then manage e
 else if a.kind=5 then ((addOwn e a.addr).1,[]) else if a.kind=6 then gm e a.pos else iX e a.pos
def fA (w:WorldD) (a:ActD):WorldD:=
 if a.kind=1 then kP w a.side (a.text.take (cf (dc w a.side) a.text).2) else if a.kind=2 then fL w a.side (b_ (dc w a.side) a.many).2 else w
def ll (w:WorldD) (a:ActD):Bool:=decide (a.kind=5) && (!decide (sideAt a.addr.addr=a.side) || !(addOwn (dc w a.side) a.addr).2)
def Ct (w:WorldD) (a:ActD):WorldD×Int:=
 if ll w a then (w,1) else (bY a.side (aV (fA w a) a.side (dj (dc w a.side) a).1) (dj (dc w a.side) a).2,0)
def nz (l:List LetterD) (n:Int):List LetterD:=l.take n.toNat++l.drop (n.toNat+1)
def ot (l:List LetterD) (n:Nat):LetterD:=l.getD n default
def ou (w:WorldD) (a:ActD):WorldD×Int:=
 if a.kind=8\/a.kind=9 then
  if (w.bag.length:Int)<=a.pos then (w,1)
  else if a.kind=8 then (eY { w with bag:=nz w.bag a.pos } (ot w.bag a.pos.toNat),0) else ({ w with bag:=nz w.bag a.pos },0)
 else if a.kind=10 then
  if (w.bag.length:Int)<=a.pos\/40<=w.bag.length then (w,1) else ({ w with bag:=w.bag++[ot w.bag a.pos.toNat] },0)
 else if a.kind=11 then
  if kp w a.letter=false then (w,2) else if 40<=w.bag.length then (w,1) else ({ w with bag:=w.bag++[a.letter] },0)
 else
  if (w.past.length:Int)<=a.pos\/sideAt (ot w.past a.pos.toNat).to=0\/40<=w.bag.length then (w,1) else ({ w with bag:=w.bag++[ot w.past a.pos.toNat] },0)
def gZ (w:WorldD) (a:ActD):WorldD×Int:=if wR a then (if a.kind<=7 then Ct w a else ou w a) else (w,3)
theorem Ie {p:PiecesD} {m:Int}:sS p m<=p.ready.length:=Nat.min_le_right _ _
theorem If {p:PiecesD} {m:Int} (h:(p.ready.length:Int) < m):sS p m=p.ready.length:=by rw [sS];omega
theorem Ig {p:PiecesD} {m:Int} (h0:0<=m) (h:¬ (p.ready.length:Int) < m):m=(sS p m:Int):=by rw [sS];omega
theorem ry (p:PiecesD) (m:Int) (hs:SmallP p):aP 117 [.ag (p.cs 0),.sc (.int .i64 m)] (p.hp false) (.tu [.ag ((aK p m).1.cs 1),.sc (.st (aK p m).2)]) (p.hp false++(aK p m).1.hp true):=by
 have hf:=KI (p:=p) (m:=m)
 have ht:=KH (p:=p) (m:=m)
 have hC:=iR p hs.list
 have hK:=bG p hs.list
 have hsl:=hs.list
 have hsr:=hs.ready
 generalize aK p m=R at*
 by_cases h0:0<=m
 ·obtain⟨N,hN⟩:∃ N,N=sS p m:=⟨_,rfl⟩
  have hle:N<=p.ready.length:=by rw [hN];exact Ie
  have hok:piecesOk p=true->vy p m=decide (p.read+(N:Int)<=1000000000):=fun b1=>by rw [vy,b1,decide_eq_true h0,hN];rfl
  rw [<-hN] at ht
  have key:∀ M:Int,M=(N:Int)->(M=(p.ready.length:Int)\/M=m)->True:=fun _ _ _=>trivial
  refine FE func117 ntmps117 results117 fun E hE=>?_
  refine qK (hC) (qI 0 1) ?_
  by_cases hlt:(p.ready.length:Int) < m
  ·have e:=If hlt
   rw [<-hN] at e
   subst e
   try simp (disch:=omega) only [go_sem,seval,hlt]
   refine qK (hK) (qI 0 1) ?_
   refine qB (fun b1=>?_) fun b1=>?_
   ·have F:=bh b1 hs
    have f0:=F.r0
    have f1:=F.r1
    have f2:=F.ready
    have hok':=hok b1
    refine qX ?_
    refine qB (fun b3=>?_) fun b3=>?_
    ·rw [hf (by rw [hok'];simp;omega)]
     refine qX ?_
     exact iO (qI 0 1++qI 3 1)
    rw [ht (by rw [hok'];simp;omega)]
    refine qX ?_
    refine gr [(2,5),(4,5)] [(2,4)] [[0,1,3,2,4,5,6],[0,1,3,2,5,4,6],[0,1,3,5,2,4,6]] 1 hE (fun s=>s.at (qU [42,5]) [(5,.sc (.st (p.ready.take p.ready.length)))] (s.hp.set 2 (some ⟨[[.int .i64 (p.read+(p.ready.length:Int)),.st (p.ready.drop p.ready.length),.sl 3 0 p.list.length]],3,35,true,false⟩))) (by kernel_rfl) (qC) (by kernel_rfl) ?_ (af 400 ?_)
    rotate_left
    rotate_right
    simp only [aR]
    refine⟨aa 400 ?_,aa 400 ?_,aa 400 ?_⟩
    ·simp (disch:=omega) only [go_sem]
     exact qZ (qI 0 5)
    ·simp (disch:=omega) only [go_sem]
     exact qZ (qI 0 5)
    ·simp (disch:=omega) only [go_sem]
     exact qZ (qI 0 5)
    refine qX ?_
    exact iO (qI 0 1++qI 3 1)
   rw [hf (by simp [vy,b1])]
   refine qX ?_
   exact iO (qI 0 1++qI 3 1)
  have e:=Ig h0 hlt
  rw [<-hN] at e
  subst e
  refine qX ?_
  refine qK (hK) (qI 0 1) ?_
  refine qB (fun b1=>?_) fun b1=>?_
  ·have F:=bh b1 hs
   have f0:=F.r0
   have f1:=F.r1
   have f2:=F.ready
   have hok':=hok b1
   refine qX ?_
   refine qB (fun b3=>?_) fun b3=>?_
   ·rw [hf (by rw [hok'];simp;omega)]
    refine qX ?_
    exact iO (qI 0 1++qI 3 1)
   rw [ht (by rw [hok'];simp;omega)]
   refine qX ?_
   refine gr [(2,5),(4,5)] [(2,4)] [[0,1,3,2,4,5,6],[0,1,3,2,5,4,6],[0,1,3,5,2,4,6]] 1 hE (fun s=>s.at (qU [42,5]) [(5,.sc (.st (p.ready.take N)))] (s.hp.set 2 (some ⟨[[.int .i64 (p.read+(N:Int)),.st (p.ready.drop N),.sl 3 0 p.list.length]],3,35,true,false⟩))) (by kernel_rfl) (qC) (by kernel_rfl) ?_ (af 400 ?_)
   rotate_left
   rotate_right
   simp only [aR]
   refine⟨aa 400 ?_,aa 400 ?_,aa 400 ?_⟩
   ·simp (disch:=omega) only [go_sem]
    exact qZ (qI 0 5)
   ·simp (disch:=omega) only [go_sem]
    exact qZ (qI 0 5)
   ·simp (disch:=omega) only [go_sem]
    exact qZ (qI 0 5)
   refine qX ?_
   exact iO (qI 0 1++qI 3 1)
  rw [hf (by simp [vy,b1])]
  refine qX ?_
  exact iO (qI 0 1++qI 3 1)
 rw [hf (by simp [vy,h0])]
 refine FE func117 ntmps117 results117 fun E hE=>?_
 refine qK (hC) (qI 0 1) ?_
 refine qK (hK) (qI 0 1) ?_
 refine qB (fun b1=>?_) fun b1=>?_
 ·refine qX ?_
  exact iO (qI 0 1++qI 3 1)
 refine qX ?_
 exact iO (qI 0 1++qI 3 1)
theorem zJ (e:EndD) (t:List UInt8) (hs:Small e) (ht:t.length<=1048576):aP 105 [.ag (e.cs 0),.sc (.st t)] (e.hp false) (.tu [.ag ((cf e t).1.cs 7),.sc (.int .i64 ((cf e t).2:Nat))]) (e.hp false++(cf e t).1.hp true):=by
 have hC:=(qH (ar e))
 have hK:=(qH (aH e))
 have hA:=ox e.out t ht
 have hf:=GC (e:=e) (t:=t)
 have htt:=vx (e:=e) (t:=t)
 generalize cf e t=R at*
 refine qE func105 ntmps105 results105 fun E hE=>?_
 refine qK (hC) (qI 0 7) ?_
 refine qK (hK) (qI 0 7) ?_
 refine qB (fun b1=>?_) fun b1=>?_
 ·rw [hf b1]
  refine qX ?_
  exact qF (qI 0 7++qI 9 7)
 rw [htt b1]
 refine qX ?_
 refine qK (hA) [] ?_
 exact qF (qI 0 7++qI 9 7)
theorem tZ (e:EndD) (m:Int) (hs:Small e) (hsp:SmallP e.inp):aP 90 [.ag (e.cs 0),.sc (.int .i64 m)] (e.hp false) (.tu [.ag ((b_ e m).1.cs 7),.sc (.st (b_ e m).2)]) (e.hp false++(b_ e m).1.hp true):=by
 have hC:=(qH (ar e))
 have hK:=(qH (aH e))
 have hA:=ry e.inp m hsp
 have hf:=GD (e:=e) (m:=m)
 have htt:=vz (e:=e) (m:=m)
 generalize b_ e m=R at*
 refine qE func90 ntmps90 results90 fun E hE=>?_
 refine qK (hC) (qI 0 7) ?_
 refine qK (hK) (qI 0 7) ?_
 refine qB (fun b1=>?_) fun b1=>?_
 ·rw [hf b1]
  refine qX ?_
  exact qF (qI 0 7++qI 9 7)
 rw [htt b1]
 refine qX ?_
 refine qK (hA) (qI 4 1) ?_
 exact qF (qI 0 7++qI 9 4++qI 17 1++qI 14 2)
def cK {α:Type} (f:α->α) (l:List α) (k:Nat):List α:=(l.take k).map f++l.drop k
theorem CA {α:Type} {f:α->α} {l:List α} {k:Nat}:(cK f l k).length=l.length:=by simp [cK];omega
theorem EQ {α:Type} {f:α->α} {l:List α} {k:Nat} (h:k < l.length):(cK f l k)[k]? =some l[k]:=by
 have h1:((l.take k).map f).length=k:=by simp;omega
 rw [cK,List.getElem?_append_right zO,K0 h,h1]
 simp
theorem CB {α:Type} {f:α->α} {l:List α} {k:Nat} (h:k < l.length):∀ p:k < (cK f l k).length,(cK f l k)[k]'p=l[k]:=by
 intro p
 have hq:=EQ (f:=f) h
 rw [K1 p] at hq
 exact Option.some.inj hq
theorem CC {α:Type} {f:α->α} {l:List α} {k:Nat} (h:k < l.length):(cK f l k).set k (f l[k])=cK f l (k+1):=by
 have h1:((l.take k).map f).length=k:=by simp;omega
 rw [cK,cK,List.set_append_right _ _ zO,KZ h,K3,h1]
 simp
 rw [K0 h]
 rfl
theorem zT {α:Type} {f:α->α} {l:List α} {k:Nat} (h:k < l.length) (hs:f l[k]=l[k]):cK f l (k+1)=cK f l k:=by
 rw [cK,cK,KZ h,K3,K0 h]
 simp [hs]
theorem zU {α:Type} {f:α->α} {l:List α}:cK f l 0=l:=by simp [cK]
theorem CD {α:Type} {f:α->α} {l:List α}:cK f l l.length=l.map f:=by simp [cK]
end
end Go.Proofs.YtdiiopjaebnmfaaGreat
