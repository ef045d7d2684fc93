/- Lemmas of this claim. -/
import Derived.Test.YtdiiopjaebnmfaaGreatDoorZFnScriptsD
import Derived.Test.YtdiiopjaebnmfaaGreatDoorZFnScriptsE
set_option maxHeartbeats 16000000
set_option maxRecDepth 100000
set_option linter.unusedVariables false
set_option linter.unusedSimpArgs false
namespace Go.Proofs.YtdiiopjaebnmfaaGreatDoor
open _root_.Go.Proofs.Tryz
open _root_.Bool renaming and_eq_true->Ru,or_eq_true->RI
open _root_.Nat renaming zero_le->Rv,le_refl->RA
open _root_.List renaming take_succ_eq_append_getElem->Rw,drop_eq_nil_of_le->Rx,getD_eq_getElem?_getD->Ry,drop_eq_getElem_cons->Rz,append_nil->RB,length_append->RC,length_filter_le->RD,map_cons->RE,map_nil->RF,length_cons->RG,length_nil->RH,mem_append->RJ
section
open Go.RowKit
def e7 (w:WorldD) (side:Int) (t:List UInt8):WorldD:=if side=1 then { w with wroteA:=w.wroteA++t } else { w with wroteB:=w.wroteB++t }
def cL (w:WorldD) (side:Int) (t:List UInt8):WorldD:=if side=1 then { w with readA:=w.readA++t } else { w with readB:=w.readB++t }
def dQ (w:WorldD) (x:LetterD):Bool:=cO x && !decide (sideAt x.to=0) && jc w.known x.tag && [x.key,x.nonce,x.give,x.sgn].all fun n=>decide (n < 1000) || oH w.nums n
def dq (e:EndD) (a:ActD):EndD×List LetterD:=
 if a.kind=1 then bh e a.text else if a.kind=2 then ((bu e a.many).1,[]) else if a.kind=3 then tick e else if a.kind=4 then manage e
 else if a.kind=5 then ((aN e a.addr).1,[]) else if a.kind=6 then bz e a.pos else cp e a.pos
def eB (w:WorldD) (a:ActD):WorldD:=
 if a.kind=1 then e7 w a.side (a.text.take (write (bJ w a.side) a.text).2) else if a.kind=2 then cL w a.side (bu (bJ w a.side) a.many).2 else w
def dx (w:WorldD) (a:ActD):Bool:=decide (a.kind=5) && (!decide (sideAt a.addr.addr=a.side) || !(aN (bJ w a.side) a.addr).2)
def aU (w:WorldD) (a:ActD):WorldD×Int:=
 if dx w a then (w,1) else (az a.side (aJ (eB w a) a.side (dq (bJ w a.side) a).1) (dq (bJ w a.side) a).2,0)
def iz (l:List LetterD) (n:Int):List LetterD:=l.take n.toNat++l.drop (n.toNat+1)
def lV (l:List LetterD) (n:Nat):LetterD:=l.getD n default
def bq (w:WorldD) (a:ActD):WorldD×Int:=
 if a.kind=8\/a.kind=9 then
  if (w.bag.length:Int)<=a.pos then (w,1)
  else if a.kind=8 then (ed { w with bag:=iz w.bag a.pos } (lV w.bag a.pos.toNat),0) else ({ w with bag:=iz w.bag a.pos },0)
 else if a.kind=10 then
  if (w.bag.length:Int)<=a.pos\/40<=w.bag.length then (w,1) else ({ w with bag:=w.bag++[lV w.bag a.pos.toNat] },0)
 else if a.kind=11 then
  if dQ w a.letter=false then (w,2) else if 40<=w.bag.length then (w,1) else ({ w with bag:=w.bag++[a.letter] },0)
 else
  if (w.past.length:Int)<=a.pos\/sideAt (lV w.past a.pos.toNat).to=0\/40<=w.bag.length then (w,1) else ({ w with bag:=w.bag++[lV w.past a.pos.toNat] },0)
def dy (w:WorldD) (a:ActD):WorldD×Int:=if bG a then (if a.kind<=7 then aU w a else bq w a) else (w,3)
def j7 (x:LetterD):List Int:=[x.nonce,x.give,x.sgn]
theorem wq {l:List Int} {m:List Int} {k:Nat} (h:k < l.length):(l.drop k).foldl iY m=(l.drop (k+1)).foldl iY (iY m l[k]):=by
 rw [Rz h];rfl
theorem yR {l:List Int} {m:List Int} {k:Nat} (h:l.length<=k):(l.drop k).foldl iY m=m:=by
 rw [Rx h];rfl
theorem fF (w:WorldD) (l:List LetterD) (hw:SmallP2 w) (hl:l.length<=1048576):aP 101 [.sc (.pt 21 0 0),.sc (.int .i64 1),.sc (.sl 22 0 l.length)]
  (iA w false++(iB w true++[some ⟨[w.cs 0],61,60,true,false⟩,some ⟨l.map LetterD.cs,19,36,false,true⟩])) (.tu [])
  (iA w false++((nH 7++[some ⟨[(ix (az 1 w l) 0 1 2 3 4 5 6 7 8 9 10 11 12 13 23 24 25 26 27 28 29)],61,60,true,false⟩,some ⟨l.map LetterD.cs,19,36,false,true⟩])++iB (az 1 w l) true)):=by
 obtain⟨R,hR⟩:∃ R,R=az 1 w l:=⟨_,rfl⟩
 rw [<-hR]
 have hl2:l.length<=9223372036854775807:=zO
 refine aL func101 (by kernel_rfl) rfl fun E hE=>aa 400 ?_
 simp (disch:=omega) only [ntmps101,results101,go_sem,seval]
 refine jY 23 hE (fun s (y:Nat×WorldD)=>s.at (qU [2,1,7,1,9,1,13,145]) [(12,.sc (.int .i64 (y.1:Nat)))] (iA w false++((nH 7++[some ⟨[(ix y.2 0 1 2 3 4 5 6 7 8 9 10 11 12 13 23 24 25 26 27 28 29)],61,60,true,false⟩,some ⟨l.map LetterD.cs,19,36,false,true⟩])++(iB y.2 true)))) (fun (y:Nat×WorldD)=>y.1<=l.length/\y.2.a=w.a/\y.2.b=w.b/\SmallP2 y.2/\R=az 1 y.2 (l.drop y.1)) (fun (y:Nat×WorldD)=>l.length - y.1) (0,w) (qI 0 23++qI 14 7) (qC) (⟨Rv _,rfl,rfl,hw,hR⟩) (am zF zF ?_) fun y hy N hN=>?_
 ·try simp (disch:=omega) only [go_sem,seval]
 obtain⟨i,u⟩:=y
 obtain⟨hi,ha,hb,hS,hu⟩:=hy
 obtain⟨ua,ub,bag,past,wA,wB,rA,rB,known,nums,nsA,nsB⟩:=u
 obtain⟨keys,tags⟩:=known
 dsimp only at hi ha hb hu
 subst ha hb
 have s1:=hS.bag
 have s2:=hS.past
 have s3:=hS.keys
 have s4:=hS.tags
 have s5:=hS.nums
 have s6:=hS.ansA
 have s7:=hS.ansB
 dsimp only at s1 s2 s3 s4 s5 s6 s7
 refine jw 21 400 ?_
 try simp (disch:=omega) only [go_sem,seval]
 split<;>rename_i h<;>(try simp only [decide_eq_true_eq,decide_eq_false_iff_not,Int.ofNat_lt] at h)
 rotate_left
 ·have e:i=l.length:=zO
  subst e
  rw [yP (RA _)] at hu
  subst hu
  try simp (disch:=omega) only [go_sem,seval]
  refine aH (qI 0 30) (qC) _ (by simp only [go_sem];rfl) zF zF ?_
  simp (disch:=omega) only [go_sem,seval]
 rw [vX h] at hu
 generalize hx:l[i]=x at hu
 have hget:=bt (enc:=LetterD.cs) h
 rw [hx] at hget
 try simp (disch:=omega) only [go_sem,seval,hget]
 obtain⟨p1,hp1⟩:∃ p,p=fE past x:=⟨_,rfl⟩
 refine nh 23 hE (fun s=>s.at (qU [13,19]) [] (iA w false++((nH 7++[some ⟨[(ix (⟨w.a,w.b,bag,p1,wA,wB,rA,rB,⟨keys,tags⟩,nums,nsA,nsB⟩:WorldD) 0 1 2 3 4 5 6 7 8 9 10 11 12 13 23 24 25 26 27 28 29)],61,60,true,false⟩,some ⟨l.map LetterD.cs,19,36,false,true⟩])++(iB (⟨w.a,w.b,bag,p1,wA,wB,rA,rB,⟨keys,tags⟩,nums,nsA,nsB⟩:WorldD) true++[some ⟨[x.cs],19,36,true,false⟩])))) (qC) zF (fun N hN=>aa 401 ?_) (jw 34 400 ?_)
 ·try simp (disch:=omega) only [go_sem,seval]
  split<;>rename_i b1<;>(try simp only [zR] at b1)<;>simp (disch:=omega) only [go_sem,seval,b1]<;>(try simp only [zQ] at b1)<;>try simp (disch:=omega) only [go_sem,seval]
  ·rw [GB zO] at hp1
   subst hp1
   refine ak (qU [0,11]) (by kernel_rfl) (qC) (by kernel_rfl) (ab 400 ?_)
   simp (disch:=omega) only [go_sem,seval]
   refine⟨qC,jw 34 400 ?_⟩
   try simp (disch:=omega) only [go_sem,seval]
   refine⟨qC,hN _ (qI 0 24++qI 32 1++qI 25 6) (am zF zF ?_)⟩
   simp (disch:=omega) only [go_sem,seval]
   try simp [LetterD.cs]
  rw [GC zO] at hp1
  subst hp1
  try simp (disch:=omega) only [go_sem,seval]
  refine⟨qC,hN _ (qI 0 31) (am zF zF ?_)⟩
  simp (disch:=omega) only [go_sem,seval]
 try simp (disch:=omega) only [go_sem,seval]
 obtain⟨q1,hq1⟩:∃ q,q=mC nsA (mD 1 1 x) w.a.now:=⟨_,rfl⟩
 refine nh 23 hE (fun s=>s.at (qU [13,70]) [] (iA w false++((nH 7++[some ⟨[(ix (⟨w.a,w.b,bag,p1,wA,wB,rA,rB,⟨keys,tags⟩,nums,q1,nsB⟩:WorldD) 0 1 2 3 4 5 6 7 8 9 10 11 12 13 23 24 25 26 27 28 29)],61,60,true,false⟩,some ⟨l.map LetterD.cs,19,36,false,true⟩])++(iB (⟨w.a,w.b,bag,p1,wA,wB,rA,rB,⟨keys,tags⟩,nums,q1,nsB⟩:WorldD) true++[some ⟨[x.cs],19,36,true,false⟩])))) (qC) zF (fun N hN=>aa 401 ?_) (aa 400 ?_)
 ·try simp (disch:=omega) only [go_sem,seval]
  split<;>rename_i b2<;>(try simp only [zR] at b2)<;>simp (disch:=omega) only [go_sem,seval,b2]<;>(try simp only [zQ] at b2)<;>try simp (disch:=omega) only [go_sem,seval]
  ·rw [Kn b2] at hq1
   split<;>rename_i b3<;>(try simp only [zR] at b3)<;>simp (disch:=omega) only [go_sem,seval,b3]<;>(try simp only [zQ] at b3)<;>try simp (disch:=omega) only [go_sem,seval]
   ·rw [Kl zO] at hq1
    subst hq1
    refine ak (qU [0,15]) (by kernel_rfl) (qC) (by kernel_rfl) (ab 400 ?_)
    simp (disch:=omega) only [go_sem,seval]
    refine⟨qC,aa 400 ?_⟩
    try simp (disch:=omega) only [go_sem,seval]
    refine⟨qC,hN _ (qI 0 28++qI 32 1++qI 29 2) (am zF zF ?_)⟩
    simp (disch:=omega) only [go_sem,seval]
    try simp [cB]
   rw [Km zO] at hq1
   subst hq1
   try simp (disch:=omega) only [go_sem,seval]
   refine⟨qC,hN _ (qI 0 31) (am zF zF ?_)⟩
   simp (disch:=omega) only [go_sem,seval]
  rw [ES b2,lr] at hq1
  subst hq1
  try simp (disch:=omega) only [go_sem,seval]
  refine⟨qC,hN _ (qI 0 31) (am zF zF ?_)⟩
  simp (disch:=omega) only [go_sem,seval]
 try simp (disch:=omega) only [go_sem,seval]
 refine ah (qC) (eA x.to) [] qM zF (aa 400 ?_)
 simp (disch:=omega) only [go_sem,seval]
 have hoth:mC nsB (mD 1 2 x) w.b.now=nsB:=by rw [Aj zD,lr]
 split<;>rename_i b4<;>(try simp only [zR] at b4)<;>simp (disch:=omega) only [go_sem,seval,b4]<;>(try simp only [zQ] at b4)<;>try simp (disch:=omega) only [go_sem,seval]
 ·have hK:=vV ⟨keys,tags⟩ x.tag (by dsimp only;omega) (by dsimp only;omega)
  have hky:(gM ⟨keys,tags⟩ x.tag).keys.length<=1048576:=by rw [lu];exact s3
  have hkt:(gM ⟨keys,tags⟩ x.tag).tags.length<=1048576:=vW s4
  obtain⟨kk,hkk⟩:∃ k,k=gM ⟨keys,tags⟩ x.tag:=⟨_,rfl⟩
  rw [<-hkk] at hK hky hkt
  obtain⟨k1,t1⟩:=kk
  dsimp only at hky hkt
  refine ak (qU [0,11]) (by kernel_rfl) (qC) (by kernel_rfl) (ab 400 ?_)
  simp (disch:=omega) only [go_sem,seval]
  refine aj (qC) (hK) (qI 25 2) qM zF zF (ab 400 ?_)
  simp (disch:=omega) only [go_sem,seval]
  refine⟨qC,aa 400 ?_⟩
  try simp (disch:=omega) only [go_sem,seval]
  obtain⟨n1,hn1⟩:∃ n,n=(j7 x).foldl iY nums:=⟨_,rfl⟩
  have hn1l:n1.length<=1048576:=by rw [hn1];exact gU (gU (gU s5))
  refine jY 23 hE (fun s (z:Nat×List Int)=>s.at (qU [2,1,9,1,14,7,22,12,35,9,45,23,69,14,84,20,107,33,141,17]) [(106,.sc (.int .i64 (z.1:Nat))),(104,.sc (.sl 31 0 3))] (iA w false++((nH 7++[some ⟨[(ix (⟨w.a,w.b,bag,p1,wA,wB,rA,rB,⟨k1,t1⟩,z.2,q1,nsB⟩:WorldD) 0 1 2 3 4 5 6 7 8 9 10 11 12 13 23 24 25 26 27 28 29)],61,60,true,false⟩,some ⟨l.map LetterD.cs,19,36,false,true⟩])++(iB (⟨w.a,w.b,bag,p1,wA,wB,rA,rB,⟨k1,t1⟩,z.2,q1,nsB⟩:WorldD) true++[some ⟨[x.cs],19,36,true,false⟩]++[some ⟨[[.int .i64 x.nonce],[.int .i64 x.give],[.int .i64 x.sgn]],1,3,true,true⟩])))) (fun (z:Nat×List Int)=>z.1<=3/\z.2.length<=1048576/\n1=((j7 x).drop z.1).foldl iY z.2) (fun (z:Nat×List Int)=>3 - z.1) (0,nums) (qI 0 25++qI 31 2++qI 27 4++qI 33 1) (qC) (⟨Rv _,s5,hn1⟩) (am zF zF ?_) fun z hz N2 hN2=>?_
  ·try simp (disch:=omega) only [go_sem,seval]
  obtain⟨j,m⟩:=z
  obtain⟨hj,hm,hn⟩:=hz
  dsimp only at hj hm hn
  refine aa 400 ?_
  try simp (disch:=omega) only [go_sem,seval]
  split<;>rename_i h5<;>(try simp only [decide_eq_true_eq,decide_eq_false_iff_not,Int.ofNat_lt] at h5)
  rotate_left
  ·have e:j=3:=zO
   subst e
   rw [yR (by simp [j7])] at hn
   subst hn
   try simp (disch:=omega) only [go_sem,seval]
   refine⟨qC,hN _ (i+1,(⟨w.a,w.b,bag,p1,wA,wB,rA,rB,⟨k1,t1⟩,n1,q1,nsB⟩:WorldD)) (qI 0 30) (⟨zO,rfl,rfl,?_,?_⟩) (by (try dsimp only);omega) (am zF zF ?_)⟩
   ·have e:br 1 (⟨w.a,w.b,bag,past,wA,wB,rA,rB,⟨keys,tags⟩,nums,nsA,nsB⟩:WorldD) x=(⟨w.a,w.b,bag,p1,wA,wB,rA,rB,⟨k1,t1⟩,n1,q1,nsB⟩:WorldD):=by
     rw [br,if_pos b4,og,mE]
     dsimp only
     rw [<-hkk,hoth,<-hp1,<-hq1,hn1]
     rfl
    rw [<-e]
    exact iR hS
   ·have e:br 1 (⟨w.a,w.b,bag,past,wA,wB,rA,rB,⟨keys,tags⟩,nums,nsA,nsB⟩:WorldD) x=(⟨w.a,w.b,bag,p1,wA,wB,rA,rB,⟨k1,t1⟩,n1,q1,nsB⟩:WorldD):=by
     rw [br,if_pos b4,og,mE]
     dsimp only
     rw [<-hkk,hoth,<-hp1,<-hq1,hn1]
     rfl
    rw [<-e]
    exact hu
   try simp (disch:=omega) only [go_sem,seval]
  have h6:j < (j7 x).length:=by simp only [j7,RG,RH];omega
  rw [wq h6] at hn
  generalize hv:(j7 x)[j]=v at hn
  have hg3:([[.int .i64 x.nonce],[.int .i64 x.give],[.int .i64 x.sgn]]:List (List Sc))[j]? =some (cB v):=by
   rw [<-hv]
   rw [show ([[.int .i64 x.nonce],[.int .i64 x.give],[.int .i64 x.sgn]]:List (List Sc))=(j7 x).map cB from rfl]
   exact bt h6
  simp only [cB] at hg3
  have hH:=fB m v hm
  have ht:=Ki (l:=m) (n:=v)
  have hf1:=Gx (l:=m) (n:=v)
  have hf2:=Gy (l:=m) (n:=v)
  have hf3:=Gz (l:=m) (n:=v)
  have hvl:(iY m v).length<=1048576:=gU hm
  generalize iY m v=m1 at*
  try simp (disch:=omega) only [go_sem,seval,hg3]
  split<;>rename_i c1<;>(try simp only [zR] at c1)<;>simp (disch:=omega) only [go_sem,seval,c1]<;>(try simp only [zQ] at c1)<;>try simp (disch:=omega) only [go_sem,seval]
  ·refine ah (qC) (hH) (qI 27 1) qM zF (aa 400 ?_)
   simp (disch:=omega) only [go_sem,seval]
   split<;>rename_i c2<;>(try simp only [zR] at c2)<;>simp (disch:=omega) only [go_sem,seval,c2]<;>(try simp only [zQ] at c2)<;>try simp (disch:=omega) only [go_sem,seval]
   ·split<;>rename_i c3<;>(try simp only [zR] at c3)<;>simp (disch:=omega) only [go_sem,seval,c3]<;>(try simp only [zQ] at c3)<;>try simp (disch:=omega) only [go_sem,seval]
    ·have e:=ht c1 c2 zO
     subst e
     try simp (disch:=omega) only [go_sem,seval]
     refine⟨qC,hN2 _ (j+1,m++[v]) (qI 0 27++qI 33 1++qI 28 4) (by (try dsimp only);exact⟨zO,hvl,hn⟩) (by (try dsimp only);omega) (am zF zF ?_)⟩
     try simp (disch:=omega) only [go_sem,seval]
     try simp [cB]
    have e:=hf3 zO
    subst e
    try simp (disch:=omega) only [go_sem,seval]
    refine⟨qC,hN2 _ (j+1,m1) (qI 0 32) (by (try dsimp only);exact⟨zO,hm,hn⟩) (by (try dsimp only);omega) (am zF zF ?_)⟩
    try simp (disch:=omega) only [go_sem,seval]
   have e:=hf2 c2
   subst e
   try simp (disch:=omega) only [go_sem,seval]
   refine⟨qC,hN2 _ (j+1,m1) (qI 0 32) (by (try dsimp only);exact⟨zO,hm,hn⟩) (by (try dsimp only);omega) (am zF zF ?_)⟩
   try simp (disch:=omega) only [go_sem,seval]
  have e:=hf1 c1
  subst e
  try simp (disch:=omega) only [go_sem,seval]
  refine⟨qC,hN2 _ (j+1,m1) (qI 0 32) (by (try dsimp only);exact⟨zO,hm,hn⟩) (by (try dsimp only);omega) (am zF zF ?_)⟩
  try simp (disch:=omega) only [go_sem,seval]
 obtain⟨g1,hg1⟩:∃ g,g=qg bag x:=⟨_,rfl⟩
 have e:br 1 (⟨w.a,w.b,bag,past,wA,wB,rA,rB,⟨keys,tags⟩,nums,nsA,nsB⟩:WorldD) x=(⟨w.a,w.b,g1,p1,wA,wB,rA,rB,⟨keys,tags⟩,nums,q1,nsB⟩:WorldD):=by
  rw [br,if_neg b4,mE]
  dsimp only
  rw [hoth,<-hp1,<-hq1,<-hg1]
 rw [e] at hu
 have hS1:=iR (side:=1) (x:=x) hS
 rw [e] at hS1
 split<;>rename_i b5<;>(try simp only [zR] at b5)<;>simp (disch:=omega) only [go_sem,seval,b5]<;>(try simp only [zQ] at b5)<;>try simp (disch:=omega) only [go_sem,seval]
 ·rw [Kj zO] at hg1
  subst hg1
  refine ak (qU [0,11]) (by kernel_rfl) (qC) (by kernel_rfl) (ab 400 ?_)
  simp (disch:=omega) only [go_sem,seval]
  refine⟨qC,aa 400 ?_⟩
  try simp (disch:=omega) only [go_sem,seval]
  refine⟨qC,hN _ (i+1,(⟨w.a,w.b,(bag++[x]),p1,wA,wB,rA,rB,⟨keys,tags⟩,nums,q1,nsB⟩:WorldD)) (qI 0 23++qI 32 1++qI 24 6) (by (try dsimp only);exact⟨zO,rfl,rfl,hS1,hu⟩) (by (try dsimp only);omega) (am zF zF ?_)⟩
  try simp (disch:=omega) only [go_sem,seval]
  try simp [LetterD.cs]
 rw [Kk zO] at hg1
 subst hg1
 try simp (disch:=omega) only [go_sem,seval]
 refine⟨qC,hN _ (i+1,(⟨w.a,w.b,g1,p1,wA,wB,rA,rB,⟨keys,tags⟩,nums,q1,nsB⟩:WorldD)) (qI 0 30) (by (try dsimp only);exact⟨zO,rfl,rfl,hS1,hu⟩) (by (try dsimp only);omega) (am zF zF ?_)⟩
 try simp (disch:=omega) only [go_sem,seval]
theorem fG (w:WorldD) (l:List LetterD) (hw:SmallP2 w) (hl:l.length<=1048576):aP 101 [.sc (.pt 21 0 0),.sc (.int .i64 2),.sc (.sl 22 0 l.length)]
  (iA w false++(iB w true++[some ⟨[w.cs 0],61,60,true,false⟩,some ⟨l.map LetterD.cs,19,36,false,true⟩])) (.tu [])
  (iA w false++((nH 7++[some ⟨[(ix (az 2 w l) 0 1 2 3 4 5 6 7 8 9 10 11 12 13 23 24 25 26 27 28 29)],61,60,true,false⟩,some ⟨l.map LetterD.cs,19,36,false,true⟩])++iB (az 2 w l) true)):=by
 obtain⟨R,hR⟩:∃ R,R=az 2 w l:=⟨_,rfl⟩
 rw [<-hR]
 have hl2:l.length<=9223372036854775807:=zO
 refine aL func101 (by kernel_rfl) rfl fun E hE=>aa 400 ?_
 simp (disch:=omega) only [ntmps101,results101,go_sem,seval]
 refine jY 23 hE (fun s (y:Nat×WorldD)=>s.at (qU [2,1,7,1,9,1,13,145]) [(12,.sc (.int .i64 (y.1:Nat)))] (iA w false++((nH 7++[some ⟨[(ix y.2 0 1 2 3 4 5 6 7 8 9 10 11 12 13 23 24 25 26 27 28 29)],61,60,true,false⟩,some ⟨l.map LetterD.cs,19,36,false,true⟩])++(iB y.2 true)))) (fun (y:Nat×WorldD)=>y.1<=l.length/\y.2.a=w.a/\y.2.b=w.b/\SmallP2 y.2/\R=az 2 y.2 (l.drop y.1)) (fun (y:Nat×WorldD)=>l.length - y.1) (0,w) (qI 0 23++qI 14 7) (qC) (⟨Rv _,rfl,rfl,hw,hR⟩) (am zF zF ?_) fun y hy N hN=>?_
 ·try simp (disch:=omega) only [go_sem,seval]
 obtain⟨i,u⟩:=y
 obtain⟨hi,ha,hb,hS,hu⟩:=hy
 obtain⟨ua,ub,bag,past,wA,wB,rA,rB,known,nums,nsA,nsB⟩:=u
 obtain⟨keys,tags⟩:=known
 dsimp only at hi ha hb hu
 subst ha hb
 have s1:=hS.bag
 have s2:=hS.past
 have s3:=hS.keys
 have s4:=hS.tags
 have s5:=hS.nums
 have s6:=hS.ansA
 have s7:=hS.ansB
 dsimp only at s1 s2 s3 s4 s5 s6 s7
 refine jw 21 400 ?_
 try simp (disch:=omega) only [go_sem,seval]
 split<;>rename_i h<;>(try simp only [decide_eq_true_eq,decide_eq_false_iff_not,Int.ofNat_lt] at h)
 rotate_left
 ·have e:i=l.length:=zO
  subst e
  rw [yP (RA _)] at hu
  subst hu
  try simp (disch:=omega) only [go_sem,seval]
  refine aH (qI 0 30) (qC) _ (by simp only [go_sem];rfl) zF zF ?_
  simp (disch:=omega) only [go_sem,seval]
 rw [vX h] at hu
 generalize hx:l[i]=x at hu
 have hget:=bt (enc:=LetterD.cs) h
 rw [hx] at hget
 try simp (disch:=omega) only [go_sem,seval,hget]
 obtain⟨p1,hp1⟩:∃ p,p=fE past x:=⟨_,rfl⟩
 refine nh 23 hE (fun s=>s.at (qU [13,19]) [] (iA w false++((nH 7++[some ⟨[(ix (⟨w.a,w.b,bag,p1,wA,wB,rA,rB,⟨keys,tags⟩,nums,nsA,nsB⟩:WorldD) 0 1 2 3 4 5 6 7 8 9 10 11 12 13 23 24 25 26 27 28 29)],61,60,true,false⟩,some ⟨l.map LetterD.cs,19,36,false,true⟩])++(iB (⟨w.a,w.b,bag,p1,wA,wB,rA,rB,⟨keys,tags⟩,nums,nsA,nsB⟩:WorldD) true++[some ⟨[x.cs],19,36,true,false⟩])))) (qC) zF (fun N hN=>aa 401 ?_) (jw 34 400 ?_)
 ·try simp (disch:=omega) only [go_sem,seval]
  split<;>rename_i b1<;>(try simp only [zR] at b1)<;>simp (disch:=omega) only [go_sem,seval,b1]<;>(try simp only [zQ] at b1)<;>try simp (disch:=omega) only [go_sem,seval]
  ·rw [GB zO] at hp1
   subst hp1
   refine ak (qU [0,11]) (by kernel_rfl) (qC) (by kernel_rfl) (ab 400 ?_)
   simp (disch:=omega) only [go_sem,seval]
   refine⟨qC,jw 34 400 ?_⟩
   try simp (disch:=omega) only [go_sem,seval]
   refine⟨qC,hN _ (qI 0 24++qI 32 1++qI 25 6) (am zF zF ?_)⟩
   simp (disch:=omega) only [go_sem,seval]
   try simp [LetterD.cs]
  rw [GC zO] at hp1
  subst hp1
  try simp (disch:=omega) only [go_sem,seval]
  refine⟨qC,hN _ (qI 0 31) (am zF zF ?_)⟩
  simp (disch:=omega) only [go_sem,seval]
 try simp (disch:=omega) only [go_sem,seval]
 obtain⟨q1,hq1⟩:∃ q,q=mC nsB (mD 2 2 x) w.b.now:=⟨_,rfl⟩
 refine nh 23 hE (fun s=>s.at (qU [13,70]) [] (iA w false++((nH 7++[some ⟨[(ix (⟨w.a,w.b,bag,p1,wA,wB,rA,rB,⟨keys,tags⟩,nums,nsA,q1⟩:WorldD) 0 1 2 3 4 5 6 7 8 9 10 11 12 13 23 24 25 26 27 28 29)],61,60,true,false⟩,some ⟨l.map LetterD.cs,19,36,false,true⟩])++(iB (⟨w.a,w.b,bag,p1,wA,wB,rA,rB,⟨keys,tags⟩,nums,nsA,q1⟩:WorldD) true++[some ⟨[x.cs],19,36,true,false⟩])))) (qC) zF (fun N hN=>aa 401 ?_) (aa 400 ?_)
 ·try simp (disch:=omega) only [go_sem,seval]
  split<;>rename_i b2<;>(try simp only [zR] at b2)<;>simp (disch:=omega) only [go_sem,seval,b2]<;>(try simp only [zQ] at b2)<;>try simp (disch:=omega) only [go_sem,seval]
  ·rw [Kn b2] at hq1
   split<;>rename_i b3<;>(try simp only [zR] at b3)<;>simp (disch:=omega) only [go_sem,seval,b3]<;>(try simp only [zQ] at b3)<;>try simp (disch:=omega) only [go_sem,seval]
   ·rw [Kl zO] at hq1
    subst hq1
    refine ak (qU [0,15]) (by kernel_rfl) (qC) (by kernel_rfl) (ab 400 ?_)
    simp (disch:=omega) only [go_sem,seval]
    refine⟨qC,aa 400 ?_⟩
    try simp (disch:=omega) only [go_sem,seval]
    refine⟨qC,hN _ (qI 0 29++qI 32 1++qI 30 1) (am zF zF ?_)⟩
    simp (disch:=omega) only [go_sem,seval]
    try simp [cB]
   rw [Km zO] at hq1
   subst hq1
   try simp (disch:=omega) only [go_sem,seval]
   refine⟨qC,hN _ (qI 0 31) (am zF zF ?_)⟩
   simp (disch:=omega) only [go_sem,seval]
  rw [ES b2,lr] at hq1
  subst hq1
  try simp (disch:=omega) only [go_sem,seval]
  refine⟨qC,hN _ (qI 0 31) (am zF zF ?_)⟩
  simp (disch:=omega) only [go_sem,seval]
 try simp (disch:=omega) only [go_sem,seval]
 refine ah (qC) (eA x.to) [] qM zF (aa 400 ?_)
 simp (disch:=omega) only [go_sem,seval]
 have hoth:mC nsA (mD 2 1 x) w.a.now=nsA:=by rw [Aj zD,lr]
 split<;>rename_i b4<;>(try simp only [zR] at b4)<;>simp (disch:=omega) only [go_sem,seval,b4]<;>(try simp only [zQ] at b4)<;>try simp (disch:=omega) only [go_sem,seval]
 ·have hK:=vV ⟨keys,tags⟩ x.tag (by dsimp only;omega) (by dsimp only;omega)
  have hky:(gM ⟨keys,tags⟩ x.tag).keys.length<=1048576:=by rw [lu];exact s3
  have hkt:(gM ⟨keys,tags⟩ x.tag).tags.length<=1048576:=vW s4
  obtain⟨kk,hkk⟩:∃ k,k=gM ⟨keys,tags⟩ x.tag:=⟨_,rfl⟩
  rw [<-hkk] at hK hky hkt
  obtain⟨k1,t1⟩:=kk
  dsimp only at hky hkt
  refine ak (qU [0,11]) (by kernel_rfl) (qC) (by kernel_rfl) (ab 400 ?_)
  simp (disch:=omega) only [go_sem,seval]
  refine aj (qC) (hK) (qI 25 2) qM zF zF (ab 400 ?_)
  simp (disch:=omega) only [go_sem,seval]
  refine⟨qC,aa 400 ?_⟩
  try simp (disch:=omega) only [go_sem,seval]
  obtain⟨n1,hn1⟩:∃ n,n=(j7 x).foldl iY nums:=⟨_,rfl⟩
  have hn1l:n1.length<=1048576:=by rw [hn1];exact gU (gU (gU s5))
  refine jY 23 hE (fun s (z:Nat×List Int)=>s.at (qU [2,1,9,1,14,7,22,12,35,9,45,23,69,14,84,20,107,33,141,17]) [(106,.sc (.int .i64 (z.1:Nat))),(104,.sc (.sl 31 0 3))] (iA w false++((nH 7++[some ⟨[(ix (⟨w.a,w.b,bag,p1,wA,wB,rA,rB,⟨k1,t1⟩,z.2,nsA,q1⟩:WorldD) 0 1 2 3 4 5 6 7 8 9 10 11 12 13 23 24 25 26 27 28 29)],61,60,true,false⟩,some ⟨l.map LetterD.cs,19,36,false,true⟩])++(iB (⟨w.a,w.b,bag,p1,wA,wB,rA,rB,⟨k1,t1⟩,z.2,nsA,q1⟩:WorldD) true++[some ⟨[x.cs],19,36,true,false⟩]++[some ⟨[[.int .i64 x.nonce],[.int .i64 x.give],[.int .i64 x.sgn]],1,3,true,true⟩])))) (fun (z:Nat×List Int)=>z.1<=3/\z.2.length<=1048576/\n1=((j7 x).drop z.1).foldl iY z.2) (fun (z:Nat×List Int)=>3 - z.1) (0,nums) (qI 0 25++qI 31 2++qI 27 4++qI 33 1) (qC) (⟨Rv _,s5,hn1⟩) (am zF zF ?_) fun z hz N2 hN2=>?_
  ·try simp (disch:=omega) only [go_sem,seval]
  obtain⟨j,m⟩:=z
  obtain⟨hj,hm,hn⟩:=hz
  dsimp only at hj hm hn
  refine aa 400 ?_
  try simp (disch:=omega) only [go_sem,seval]
  split<;>rename_i h5<;>(try simp only [decide_eq_true_eq,decide_eq_false_iff_not,Int.ofNat_lt] at h5)
  rotate_left
  ·have e:j=3:=zO
   subst e
   rw [yR (by simp [j7])] at hn
   subst hn
   try simp (disch:=omega) only [go_sem,seval]
   refine⟨qC,hN _ (i+1,(⟨w.a,w.b,bag,p1,wA,wB,rA,rB,⟨k1,t1⟩,n1,nsA,q1⟩:WorldD)) (qI 0 30) (⟨zO,rfl,rfl,?_,?_⟩) (by (try dsimp only);omega) (am zF zF ?_)⟩
   ·have e:br 2 (⟨w.a,w.b,bag,past,wA,wB,rA,rB,⟨keys,tags⟩,nums,nsA,nsB⟩:WorldD) x=(⟨w.a,w.b,bag,p1,wA,wB,rA,rB,⟨k1,t1⟩,n1,nsA,q1⟩:WorldD):=by
     rw [br,if_pos b4,og,mE]
     dsimp only
     rw [<-hkk,hoth,<-hp1,<-hq1,hn1]
     rfl
    rw [<-e]
    exact iR hS
   ·have e:br 2 (⟨w.a,w.b,bag,past,wA,wB,rA,rB,⟨keys,tags⟩,nums,nsA,nsB⟩:WorldD) x=(⟨w.a,w.b,bag,p1,wA,wB,rA,rB,⟨k1,t1⟩,n1,nsA,q1⟩:WorldD):=by
     rw [br,if_pos b4,og,mE]
     dsimp only
     rw [<-hkk,hoth,<-hp1,<-hq1,hn1]
     rfl
    rw [<-e]
    exact hu
   try simp (disch:=omega) only [go_sem,seval]
  have h6:j < (j7 x).length:=by simp only [j7,RG,RH];omega
  rw [wq h6] at hn
  generalize hv:(j7 x)[j]=v at hn
  have hg3:([[.int .i64 x.nonce],[.int .i64 x.give],[.int .i64 x.sgn]]:List (List Sc))[j]? =some (cB v):=by
   rw [<-hv]
   rw [show ([[.int .i64 x.nonce],[.int .i64 x.give],[.int .i64 x.sgn]]:List (List Sc))=(j7 x).map cB from rfl]
   exact bt h6
  simp only [cB] at hg3
  have hH:=fB m v hm
  have ht:=Ki (l:=m) (n:=v)
  have hf1:=Gx (l:=m) (n:=v)
  have hf2:=Gy (l:=m) (n:=v)
  have hf3:=Gz (l:=m) (n:=v)
  have hvl:(iY m v).length<=1048576:=gU hm
  generalize iY m v=m1 at*
  try simp (disch:=omega) only [go_sem,seval,hg3]
  split<;>rename_i c1<;>(try simp only [zR] at c1)<;>simp (disch:=omega) only [go_sem,seval,c1]<;>(try simp only [zQ] at c1)<;>try simp (disch:=omega) only [go_sem,seval]
  ·refine ah (qC) (hH) (qI 27 1) qM zF (aa 400 ?_)
   simp (disch:=omega) only [go_sem,seval]
   split<;>rename_i c2<;>(try simp only [zR] at c2)<;>simp (disch:=omega) only [go_sem,seval,c2]<;>(try simp only [zQ] at c2)<;>try simp (disch:=omega) only [go_sem,seval]
   ·split<;>rename_i c3<;>(try simp only [zR] at c3)<;>simp (disch:=omega) only [go_sem,seval,c3]<;>(try simp only [zQ] at c3)<;>try simp (disch:=omega) only [go_sem,seval]
    ·have e:=ht c1 c2 zO
     subst e
     try simp (disch:=omega) only [go_sem,seval]
     refine⟨qC,hN2 _ (j+1,m++[v]) (qI 0 27++qI 33 1++qI 28 4) (by (try dsimp only);exact⟨zO,hvl,hn⟩) (by (try dsimp only);omega) (am zF zF ?_)⟩
     try simp (disch:=omega) only [go_sem,seval]
     try simp [cB]
    have e:=hf3 zO
    subst e
    try simp (disch:=omega) only [go_sem,seval]
    refine⟨qC,hN2 _ (j+1,m1) (qI 0 32) (by (try dsimp only);exact⟨zO,hm,hn⟩) (by (try dsimp only);omega) (am zF zF ?_)⟩
    try simp (disch:=omega) only [go_sem,seval]
   have e:=hf2 c2
   subst e
   try simp (disch:=omega) only [go_sem,seval]
   refine⟨qC,hN2 _ (j+1,m1) (qI 0 32) (by (try dsimp only);exact⟨zO,hm,hn⟩) (by (try dsimp only);omega) (am zF zF ?_)⟩
   try simp (disch:=omega) only [go_sem,seval]
  have e:=hf1 c1
  subst e
  try simp (disch:=omega) only [go_sem,seval]
  refine⟨qC,hN2 _ (j+1,m1) (qI 0 32) (by (try dsimp only);exact⟨zO,hm,hn⟩) (by (try dsimp only);omega) (am zF zF ?_)⟩
  try simp (disch:=omega) only [go_sem,seval]
 obtain⟨g1,hg1⟩:∃ g,g=qg bag x:=⟨_,rfl⟩
 have e:br 2 (⟨w.a,w.b,bag,past,wA,wB,rA,rB,⟨keys,tags⟩,nums,nsA,nsB⟩:WorldD) x=(⟨w.a,w.b,g1,p1,wA,wB,rA,rB,⟨keys,tags⟩,nums,nsA,q1⟩:WorldD):=by
  rw [br,if_neg b4,mE]
  dsimp only
  rw [hoth,<-hp1,<-hq1,<-hg1]
 rw [e] at hu
 have hS1:=iR (side:=2) (x:=x) hS
 rw [e] at hS1
 split<;>rename_i b5<;>(try simp only [zR] at b5)<;>simp (disch:=omega) only [go_sem,seval,b5]<;>(try simp only [zQ] at b5)<;>try simp (disch:=omega) only [go_sem,seval]
 ·rw [Kj zO] at hg1
  subst hg1
  refine ak (qU [0,11]) (by kernel_rfl) (qC) (by kernel_rfl) (ab 400 ?_)
  simp (disch:=omega) only [go_sem,seval]
  refine⟨qC,aa 400 ?_⟩
  try simp (disch:=omega) only [go_sem,seval]
  refine⟨qC,hN _ (i+1,(⟨w.a,w.b,(bag++[x]),p1,wA,wB,rA,rB,⟨keys,tags⟩,nums,nsA,q1⟩:WorldD)) (qI 0 23++qI 32 1++qI 24 6) (by (try dsimp only);exact⟨zO,rfl,rfl,hS1,hu⟩) (by (try dsimp only);omega) (am zF zF ?_)⟩
  try simp (disch:=omega) only [go_sem,seval]
  try simp [LetterD.cs]
 rw [Kk zO] at hg1
 subst hg1
 try simp (disch:=omega) only [go_sem,seval]
 refine⟨qC,hN _ (i+1,(⟨w.a,w.b,g1,p1,wA,wB,rA,rB,⟨keys,tags⟩,nums,nsA,q1⟩:WorldD)) (qI 0 30) (by (try dsimp only);exact⟨zO,rfl,rfl,hS1,hu⟩) (by (try dsimp only);omega) (am zF zF ?_)⟩
 try simp (disch:=omega) only [go_sem,seval]
theorem sh {α:Type} {l:List α} {p:α->Bool} {k:Nat} (h:k < l.length):(l.drop k).filter p=if p l[k] then l[k]::(l.drop (k+1)).filter p else (l.drop (k+1)).filter p:=by
 rw [Rz h,List.filter_cons]
theorem wu {α:Type} {l:List α} {p:α->Bool} {k:Nat} (h:l.length<=k):(l.drop k).filter p=[]:=by
 rw [Rx h];rfl
theorem xV {b:BucketD} (h:bucketOk b=true):0<=b.rate/\b.rate<=100/\1<=b.burst/\b.burst<=100/\0<=b.cur/\b.cur<=b.burst:=by
 simp only [bucketOk,dJ,Ru,decide_eq_true_eq] at h
 omega
theorem Kt {b:BucketD} (h:bucketOk b=true):gV b={ b with cur:=min b.burst (b.cur+b.rate) }:=if_pos h
theorem Ku {b:BucketD} (h:bucketOk b=false):gV b=b:=if_neg (by simp [h])
theorem CD (b:BucketD):aP 142 [.ag b.cs,.sc (.int .i64 1)] [] (.ag (gV b).cs) []:=by
 have hK:=iI b
 have hN:=cm [1] zP
 have hf:=Ku (b:=b)
 have ht:=Kt (b:=b)
 generalize gV b=R at*
 refine qE func142 ntmps142 results142 fun E hE=>?_
 refine qK (hK) [] ?_
 refine qB (fun b1=>?_) fun b1=>?_
 ·have F:=xV b1
  rw [show ([1]:List Int).all eg=true from rfl] at hN
  refine qK (hN) (qI 2 1) ?_
  rw [ht b1]
  by_cases hm:b.cur+b.rate < b.burst
  ·rw [show min b.burst (b.cur+b.rate)=b.cur+b.rate by omega]
   try simp (disch:=omega) only [go_sem,seval,Int.mul_one,hm]
   refine qP [] ?_
   first|exact⟨⟩|simp [hm]
  rw [show min b.burst (b.cur+b.rate)=b.burst by omega]
  try simp (disch:=omega) only [go_sem,seval,Int.mul_one,hm]
  refine qP [] ?_
  first|exact⟨⟩|simp [hm]
 rw [hf b1]
 refine qX ?_
 exact qF []
theorem Aq (l:List HalfD) (now:Int) (hl:l.length<=1048576):aP 143 [.sc (.sl 0 0 l.length),.sc (.int .i64 now)] [some ⟨l.map HalfD.cs,8,214,false,true⟩] (.sc (.sl 1 0 (ff l now).length)) [some ⟨l.map HalfD.cs,8,214,false,true⟩,some ⟨(ff l now).map HalfD.cs,8,214,true,true⟩]:=by
 obtain⟨R,hR⟩:∃ R,R=ff l now:=⟨_,rfl⟩
 rw [<-hR]
 rw [ff] at hR
 refine qE func143 ntmps143 results143 fun E hE=>?_
 refine kw 1 hE (fun s (x:Nat×List HalfD)=>s.at (qU [0,1,7,1,11,12]) [(10,.sc (.int .i64 (x.1:Nat))),(5,.sc (.sl 1 0 x.2.length))] (s.hp++[some ⟨x.2.map HalfD.cs,8,214,true,true⟩])) (fun (x:Nat×List HalfD)=>x.1<=l.length/\x.2.length<=x.1/\R=x.2++(l.drop x.1).filter (fun h=>decide (now < h.till))) (fun (x:Nat×List HalfD)=>l.length - x.1) (0,[]) (qI 0 1++qO 1) (⟨Rv _,Rv _,hR⟩) fun x hx N hN=>?_
 obtain⟨k,acc⟩:=x
 obtain⟨h1,h2,h3⟩:=hx
 dsimp only at h1 h2 h3
 refine qR ?_
 refine qB (fun h=>?_) fun h=>?_
 ·rw [sh h] at h3
  have hg:=bt (enc:=HalfD.cs) h
  try simp (disch:=omega) only [go_sem,seval,hg]
  refine qB (fun b2=>?_) fun b2=>?_
  ·rw [if_pos (by simpa using b2)] at h3
   refine⟨qC,hN _ (k+1,acc++[l[k]]) (qI 0 1++qI 4 1) (by (try dsimp only);exact⟨zO,by simp;omega,by simpa using h3⟩) (by (try dsimp only);omega) (ay zF zF ?_)⟩
   refine qX ?_
   simp [HalfD.cs]
  rw [if_neg (by simpa using b2)] at h3
  exact qN hN (k+1,acc) (qI 0 2) (by (try dsimp only);exact⟨zO,zO,h3⟩)
 rw [wu zO,RB] at h3
 subst h3
 exact qF (qI 0 2)
theorem lW (e:EndD) (s:SubD) (h:dJ e.side 1 2=true):aP 146 [.ag (e.cs 0),.ag s.cs] (e.hp false) (.ag (fU e s).cs) (e.hp false):=by
 have hT:=n_ (3 - e.side)
 have hB:aP 134 [.ag s.road.cs,.ag (LetterD.cs { ac with kind:=4,token:=fY (3 - e.side),nonce:=s.mine,give:=s.take,spare:=s.spare })] [] (.ag (fU e s).cs) []:=bc s.road { ac with kind:=4,token:=fY (3 - e.side),nonce:=s.mine,give:=s.take,spare:=s.spare }
 simp only [dJ,Ru,decide_eq_true_eq] at h
 refine qE func146 ntmps146 results146 fun E hE=>?_
 refine qD [0,1,2,3,4,6,7,8,9,10,11,5,12,13,14] ?_
 refine b_ (hT) [] ?_
 refine b_ (hB) [] ?_
 refine qG ?_
 refine qP (qI 0 7) ?_
 first|exact⟨⟩|rfl
theorem CF (e:EndD) (hl:e.subs.length<=1048576):aP 150 [.ag (e.cs 0)] (e.hp false) (.sc (.sl 7 0 (gW e.subs).length)) (e.hp false++[some ⟨(gW e.subs).map RoadD.cs,3,113,true,true⟩]):=by
 obtain⟨R,hR⟩:∃ R,R=gW e.subs:=⟨_,rfl⟩
 rw [<-hR]
 rw [gW] at hR
 refine qE func150 ntmps150 results150 fun E hE=>?_
 refine kw 7 hE (fun s (x:Nat×List RoadD)=>s.at (qU [0,2,5,2,10,12]) [(9,.sc (.int .i64 (x.1:Nat))),(3,.sc (.sl 8 0 x.2.length))] ((s.hp.take 8)++[some ⟨x.2.map RoadD.cs,3,113,true,true⟩])) (fun (x:Nat×List RoadD)=>x.1<=e.subs.length/\x.2.length<=x.1/\R=x.2++((e.subs.drop x.1).filter (fun s=>s.state != 4)).map SubD.road) (fun (x:Nat×List RoadD)=>e.subs.length - x.1) (0,[]) (qI 0 8++qO 1) (⟨Rv _,Rv _,hR⟩) fun x hx N hN=>?_
 obtain⟨k,acc⟩:=x
 obtain⟨h1,h2,h3⟩:=hx
 dsimp only at h1 h2 h3
 refine qR ?_
 refine qB (fun h=>?_) fun h=>?_
 ·rw [sh h] at h3
  have hg:=bt (enc:=SubD.cs) h
  try simp (disch:=omega) only [go_sem,seval,hg]
  refine qB (fun b2=>?_) fun b2=>?_
  ·rw [if_pos (by simpa using b2),RE] at h3
   try simp (disch:=omega) only [go_sem,seval,hg]
   refine⟨qC,hN _ (k+1,acc++[e.subs[k].road]) (qI 0 8++qI 11 1) (by (try dsimp only);exact⟨zO,by simp;omega,by simpa using h3⟩) (by (try dsimp only);omega) (ay zF zF ?_)⟩
   refine qX ?_
   simp [RoadD.cs]
  rw [if_neg (by simpa using b2)] at h3
  exact qN hN (k+1,acc) (qI 0 9) (by (try dsimp only);exact⟨zO,zO,h3⟩)
 rw [wu zO,RF,RB] at h3
 subst h3
 exact qF (qI 0 7++qI 8 1)
def mH (l:List AddrD) (n:Int):Nat->Int
 |0=> -1
 |k+1=>if (mv l k).addr=n then (k:Int) else mH l n k
theorem CG {l:List AddrD} {n:Int} {k:Nat} (h:k < l.length):i7 (l.take (k+1)) n=(i7 (l.take k) n || l[k].addr == n):=by
 rw [i7,Rw h,List.any_append];simp [i7]
theorem Ar {l:List AddrD} {n:Int} {k:Nat} (h:k < l.length):aZ (l.take (k+1)) n=if l[k].addr=n then l[k].spare else aZ (l.take k) n:=by
 rw [aZ,Rw h,List.foldl_append];rfl
theorem qj {l:List AddrD} {n:Int}:∀ (k:Nat),k<=l.length->(mH l n k= -1/\i7 (l.take k) n=false/\aZ (l.take k) n=false)\/∃ j:Nat,∃ hj:j < l.length,j < k/\mH l n k=(j:Int)/\i7 (l.take k) n=true/\aZ (l.take k) n=l[j].spare
 |0,_=>.inl ⟨rfl,by simp [i7],by simp [aZ]⟩
 |k+1,h=>by
  have hk:k < l.length:=zO
  rw [CG hk,Ar hk,mH,fD hk]
  by_cases he:l[k].addr=n
  ·right
   exact⟨k,hk,Nat.lt_succ_self k,by rw [if_pos he],by rw [RI];exact .inr (by simpa using he),by rw [if_pos he]⟩
  rw [if_neg he,if_neg he]
  have hb:(l[k].addr == n)=false:=by simpa using he
  rw [hb,Bool.or_false]
  rcases qj (l:=l) (n:=n) k zO with h1|⟨j,hj,h2,h3⟩
  ·exact .inl h1
  exact .inr ⟨j,hj,Nat.lt_succ_of_lt h2,h3⟩
def CH (l:List AddrD) (n:Int):Int:=mH l n l.length
theorem tv (l:List AddrD) (n:Int):(CH l n= -1/\i7 l n=false/\aZ l n=false)\/∃ j:Nat,∃ hj:j < l.length,CH l n=(j:Int)/\i7 l n=true/\aZ l n=l[j].spare:=by
 have:=qj (l:=l) (n:=n) l.length (RA _)
 rw [List.take_length] at this
 rcases this with h|⟨j,hj,_,h⟩
 ·exact .inl h
 exact .inr ⟨j,hj,h⟩
theorem wv (e:EndD) (n:Int) (hl:e.far.length<=1048576):aP 151 [.ag (e.cs 0),.sc (.int .i64 n)] (e.hp false) (.sc (.int .i64 (CH e.far n))) (e.hp false):=by
 obtain⟨R,hR⟩:∃ R,R=CH e.far n:=⟨_,rfl⟩
 rw [<-hR]
 rw [CH] at hR
 refine ao func151 (by kernel_rfl) rfl fun E hE=>aa 400 ?_
 simp (disch:=omega) only [ntmps151,results151,go_sem,seval]
 refine ee 7 hE (fun s (k:Nat)=>s.at (qU [0,1,4,1,6,17]) [(5,.sc (.int .i64 ((k:Int) - 1)))] (s.hp)) (fun (k:Nat)=>k<=e.far.length/\R=mH e.far n k) (fun (k:Nat)=>k) e.far.length (qI 0 8) (qC) (⟨RA _,hR⟩) (ay zF zF ?_) fun k hk N hN=>?_
 ·try simp (disch:=omega) only [go_sem,seval]
 obtain⟨h1,h2⟩:=hk
 refine aa 400 ?_
 cases k with
 |zero=>
  rw [mH] at h2
  subst h2
  try simp (disch:=omega) only [go_sem,seval]
  refine ai (qI 0 7) (qC) _ (by simp only [go_sem];rfl) zF zF ?_
  simp (disch:=omega) only [go_sem,seval]
 |succ j=>
  have hj:j < e.far.length:=zO
  have hg:=bt (enc:=AddrD.cs) hj
  have e1:((j+1:Nat):Int) - 1=(j:Int):=zO
  have e2:(j:Int)+1 - 1=(j:Int):=zO
  rw [mH,fD hj] at h2
  try simp (disch:=omega) only [go_sem,seval,e1,e2,hg]
  split<;>rename_i b<;>(try simp only [zR] at b)<;>simp (disch:=omega) only [go_sem,seval,b]<;>(try simp only [zQ] at b)<;>try simp (disch:=omega) only [go_sem,seval]
  ·rw [if_pos b] at h2
   subst h2
   try simp (disch:=omega) only [go_sem,seval]
   refine ai (qI 0 7) (qC) _ (by simp only [go_sem];rfl) zF zF ?_
   simp (disch:=omega) only [go_sem,seval]
  rw [if_neg b] at h2
  refine⟨qC,hN _ j (qI 0 8) (by (try dsimp only);exact⟨zO,h2⟩) (by (try dsimp only);omega) (ay zF zF ?_)⟩
  try simp (disch:=omega) only [go_sem,seval]
theorem Q8 {e:EndD} {r:RoadD} {b:Bool} (h:xU e r=false):dE e r b=(e,[]):=if_neg (by simp [h])
theorem Q9 {e:EndD} {r:RoadD} {b:Bool} (h:xU e r=true):dE e r b=({ e with subs:=e.subs++[de e r b],draw:=e.draw+4 },[fU e (de e r b)]):=if_pos h
theorem ww {e:EndD} (h:ax e=true):dJ e.side 1 2=true:=by
 simp only [ax,Ru] at h
 simp_all
theorem H3 (e:EndD) (r:RoadD) (sp:Bool) (hs:Small e):aP 152 [.ag (e.cs 0),.ag r.cs,.sc (.bo sp)] (e.hp false) (.tu [.ag ((dE e r sp).1.cs 7),.sc (.sl 14 0 (dE e r sp).2.length)])
  (e.hp false++((dE e r sp).1.hp true++[some ⟨(dE e r sp).2.map LetterD.cs,19,36,true,true⟩])):=by
 have hC:=(qH (aB e))
 have hK:=(qH (bb e))
 have hO:=iH e r.own (by have:=hs.own;omega)
 have hS:=eX e r (by have:=hs.subs;omega)
 have hsub:=hs.subs
 have hF:=wv e r.far (by have:=hs.far;omega)
 have hcase:=tv e.far r.far
 have hf:=Q8 (e:=e) (r:=r) (b:=sp)
 have ht:=Q9 (e:=e) (r:=r) (b:=sp)
 have hk:=xU.eq_1 e r
 generalize dE e r sp=R at*
 refine yu func152 ntmps152 results152 fun E hE=>?_
 refine qK (hC) (qI 0 7) ?_
 refine qK (hK) (qI 0 7) ?_
 refine qB (fun h1=>?_) fun h1=>?_
 ·refine qB (fun h2=>?_) fun h2=>?_
  ·refine qK (gP r) [] ?_
   refine qB (fun h3=>?_) fun h3=>?_
   ·refine qK (hS) (qI 0 7) ?_
    refine qB (fun h4=>?_) fun h4=>?_
    ·refine qK (hO) (qI 0 7) ?_
     refine qB (fun h5=>?_) fun h5=>?_
     ·refine qK (hF) (qI 0 7) ?_
      rcases hcase with⟨q1,q2,_⟩|⟨j,hj,q1,q2,_⟩
      ·rw [hf (by rw [hk];simp [q2])]
       try simp (disch:=omega) only [go_sem,seval,q1]
       exact jh (qI 0 7++qI 10 7++qO 1)
      try simp (disch:=omega) only [go_sem,seval,q1]
      refine qB (fun h7=>?_) fun h7=>?_
      ·refine qK (eZ e) (qI 0 7) ?_
       refine qB (fun h8=>?_) fun h8=>?_
       ·rw [hf (by rw [hk];simp [h8])]
        refine qX ?_
        exact jh (qI 0 7++qI 10 7++qO 1)
       rw [ht (by rw [hk];simp [h1,h2,h3,h5,h8,q2];omega)]
       have h8':=h8
       simp only [dJ,Ru,decide_eq_true_eq] at h8'
       have hJ:=lW e (de e r sp) (ww h1)
       refine qX ?_
       refine qK (fN e h8) (qI 10 8) ?_
       refine bj [(4,5)] [] [(qU [0,7]),[0,1,2,3,5,4,6]] 7 hE (fun s=>s.at (qU [74,5,68,6]) [(7,.sc (.sl 21 0 1))] ((s.hp.set 9 (some ⟨[[.int .i64 e.side,.int .i64 e.state,.int .i64 e.key,.int .i64 e.peer,.int .i64 e.policy.kind,.int .i64 e.policy.many,.sl 10 0 e.own.length,.sl 11 0 e.far.length,.sl 20 0 (e.subs.length+1),.sl 13 0 e.halfs.length,.int .i64 e.bucket.rate,.int .i64 e.bucket.burst,.int .i64 e.bucket.cur,.st e.out.text,.int .i64 e.out.base,.int .i64 e.out.sent,.int .i64 e.out.room,.int .i64 e.inp.read,.st e.inp.ready,.sl 14 0 e.inp.list.length,.sl 15 0 e.done.length,.sl 16 0 e.over.length,.int .i64 (e.draw+4),.int .i64 e.now,.int .i64 e.pick]],25,54,true,false⟩))++[some ⟨[(fU e (de e r sp)).cs],19,36,true,true⟩])) (by kernel_rfl) (qC) (by kernel_rfl) ?_ (aa 400 ?_)
       rotate_left
       rotate_right
       simp only [a_]
       refine⟨ab 400 ?_,ab 400 ?_⟩
       ·simp (disch:=omega) only [go_sem]
        refine b_ (hJ) (qI 0 7) ?_
        refine⟨qC,(qI 0 22),am zF zF ?_⟩
        try simp (disch:=omega) only [go_sem,seval]
        try rfl
       ·simp (disch:=omega) only [go_sem]
        refine b_ (hJ) (qI 0 7) ?_
        refine⟨qC,(qI 0 22),am zF zF ?_⟩
        try simp (disch:=omega) only [go_sem,seval]
        try rfl
       refine qX ?_
       refine aH (qI 0 7++qI 10 2++qI 20 1++qI 13 4++qI 21 1) (qC) _ (by simp only [go_sem];rfl) zF zF ?_
       simp (disch:=omega) only [go_sem,seval]
       try simp [SubD.cs,de]
       try omega
      rw [hf (by rw [hk];first|(simp [h7];done)|(simp [h7];intros;omega))]
      refine qX ?_
      exact jh (qI 0 7++qI 10 7++qO 1)
     rw [hf (by rw [hk];first|(simp [h5];done)|(simp [h5];intros;omega))]
     refine qX ?_
     exact jh (qI 0 7++qI 10 7++qO 1)
    rw [hf (by rw [hk];first|(simp [h4];done)|(simp [h4];intros;omega))]
    refine qX ?_
    exact jh (qI 0 7++qI 10 7++qO 1)
   rw [hf (by rw [hk];first|(simp [h3];done)|(simp [h3];intros;omega))]
   refine qX ?_
   exact jh (qI 0 7++qI 10 7++qO 1)
  rw [hf (by rw [hk];first|(simp [h2];done)|(simp [h2];intros;omega))]
  refine qX ?_
  exact jh (qI 0 7++qI 10 7++qO 1)
 rw [hf (by rw [hk];first|(simp [h1];done)|(simp [h1];intros;omega))]
 refine qX ?_
 exact jh (qI 0 7++qI 10 7++qO 1)
theorem wy {e:EndD} {r:RoadD} {b:Bool} (hs:Small e):Small (dE e r b).1:=by
 rw [dE];split
 ·rename_i h
  simp only [xU,Ru,decide_eq_true_eq] at h
  exact⟨hs.own,hs.far,by simp only [RC,List.length_singleton];omega,hs.halfs,hs.list,hs.done,hs.over⟩
 exact hs
theorem CK (e:EndD) (r:RoadD) (b:Bool):(dE e r b).2.length<=1:=by
 rw [dE];split<;>simp
theorem E3 {far:List AddrD} {e:EndD} {l:List RoadD} {k:Nat} (h:k < l.length):dm far e (l.drop k)=
  ((dm far (dE e l[k] (aZ far l[k].far)).1 (l.drop (k+1))).1,(dE e l[k] (aZ far l[k].far)).2++(dm far (dE e l[k] (aZ far l[k].far)).1 (l.drop (k+1))).2):=by
 rw [Rz h];rfl
theorem H4 {far:List AddrD} {e:EndD} {l:List RoadD} {k:Nat} (h:l.length<=k):dm far e (l.drop k)=(e,[]):=by
 rw [Rx h];rfl
theorem P5 {e:EndD} (h:¬ (ax e=true/\e.side=1)):manage e=(e,[]):=if_neg h
theorem P6 {e:EndD} (h:ax e=true/\e.side=1):manage e=dm e.far e (fe (wanted e.policy e.own e.far) (gW e.subs)):=if_pos h
theorem qk (a b:List RoadD):(fe a b).length<=64:=by
 rw [fe];split
 ·rename_i h;exact Nat.le_trans (RD _ _) h.1
 simp
theorem H5 {e:EndD} (h:ax e=true):e.policy.wf:=by
 have hp:polOk e.policy=true:=by simp only [ax,Ru] at h;simp_all
 rw [polOk] at hp
 split at hp
 ·rename_i hk
  simp only [dJ,Ru,decide_eq_true_eq] at hp
  exact⟨⟨zO,zO⟩,⟨zO,zO⟩⟩
 simp only [Ru,RI,beq_iff_eq] at hp
 exact⟨⟨zO,zO⟩,⟨zO,zO⟩⟩
theorem H6 (l:List SubD):(gW l).length<=l.length:=by
 rw [gW,List.length_map];exact RD _ _
theorem tw (e:EndD) (hs:Small e):aP 95 [.ag (e.cs 0)] (e.hp false) (.tu [.ag ((manage e).1.cs 7),.sc (.sl 14 0 (manage e).2.length)])
  (e.hp false++((manage e).1.hp true++[some ⟨(manage e).2.map LetterD.cs,19,36,true,true⟩])):=by
 have hC:=(qH (aB e))
 have hK:=(qH (bb e))
 have hsub:=hs.subs
 have hsf:=hs.far
 have hso:=hs.own
 have hf:=P5 (e:=e)
 have ht:=P6 (e:=e)
 have hH:=CF e hs.subs
 have hhl:=H6 e.subs
 have hM64:=qk (wanted e.policy e.own e.far) (gW e.subs)
 obtain⟨R,hR⟩:∃ R,R=manage e:=⟨_,rfl⟩
 rw [<-hR] at hf ht
 rw [<-hR]
 clear hR
 refine aL func95 (by kernel_rfl) rfl fun E hE=>aa 400 ?_
 simp (disch:=omega) only [ntmps95,results95,go_sem,seval]
 refine ah (qC) (hC) (qI 0 7) qM zF (aa 400 ?_)
 simp (disch:=omega) only [go_sem,seval]
 refine ah (qC) (hK) (qI 0 7) qM zF (aa 400 ?_)
 simp (disch:=omega) only [go_sem,seval]
 split<;>rename_i h1<;>(try simp only [zR] at h1)<;>simp (disch:=omega) only [go_sem,seval,h1]<;>(try simp only [zQ] at h1)<;>try simp (disch:=omega) only [go_sem,seval]
 ·split<;>rename_i h2<;>(try simp only [zR] at h2)<;>simp (disch:=omega) only [go_sem,seval,h2]<;>(try simp only [zQ] at h2)<;>try simp (disch:=omega) only [go_sem,seval]
  rotate_left
  ·have hR:=ht ⟨h1,h2⟩
   have hWa:=xW e.policy e.own e.far (H5 h1) zO zO
   have hMi:=vw (wanted e.policy e.own e.far) (gW e.subs) (by have:=E2 e.policy e.own e.far;omega) zO
   generalize hMM:fe (wanted e.policy e.own e.far) (gW e.subs)=M at*
   clear hMM
   refine ak [0,1,2,3,4,5,7,11,6,8,9,10] (by kernel_rfl) (qC) (by kernel_rfl) (ab 400 ?_)
   simp (disch:=omega) only [go_sem,seval]
   refine aj (qC) (hWa) (qI 0 2) qM zF zF (ab 400 ?_)
   simp (disch:=omega) only [go_sem,seval]
   refine aj (qC) (hH) (qI 0 7) qM zF zF (ab 400 ?_)
   simp (disch:=omega) only [go_sem,seval]
   refine aj (qC) (hMi) (qI 17 2) qM zF zF (ab 400 ?_)
   simp (disch:=omega) only [go_sem,seval]
   refine⟨qC,aa 400 ?_⟩
   try simp (disch:=omega) only [go_sem,seval]
   refine jY 7 hE (fun s (y:Nat×EndD×List LetterD)=>s.at (qU [0,1,7,24,34,28]) [(33,.sc (.int .i64 (y.1:Nat))),(31,.sc (.sl 17 0 M.length)),(32,.sc (.int .i64 (M.length:Nat))),(5,.sc (.sl 18 0 y.2.2.length))] ((s.hp.take 9)++(y.2.1.hp true++[some ⟨[y.2.1.cs 9],25,54,true,false⟩,some ⟨M.map RoadD.cs,3,113,true,true⟩,some ⟨y.2.2.map LetterD.cs,19,36,true,true⟩]))) (fun (y:Nat×EndD×List LetterD)=>y.1<=M.length/\Small y.2.1/\y.2.2.length<=y.1/\R=((dm e.far y.2.1 (M.drop y.1)).1,y.2.2++(dm e.far y.2.1 (M.drop y.1)).2)) (fun (y:Nat×EndD×List LetterD)=>M.length - y.1) (0,e,[]) (qI 0 17++qI 19 1++qO 1) (qC) (⟨Rv _,hs,RA _,hR⟩) (am zF zF ?_) fun y hy N hN=>?_
   ·try simp (disch:=omega) only [go_sem,seval]
   obtain⟨i,e1,l⟩:=y
   obtain⟨g1,g2,g3,g4⟩:=hy
   dsimp only at g1 g2 g3 g4
   refine aa 400 ?_
   try simp (disch:=omega) only [go_sem,seval]
   split<;>rename_i b<;>(try simp only [zR] at b)<;>simp (disch:=omega) only [go_sem,seval,b]<;>(try simp only [zQ] at b)<;>try simp (disch:=omega) only [go_sem,seval]
   ·rw [E3 b] at g4
    have hg:=bt (enc:=RoadD.cs) b
    generalize hr:M[i]=r at*
    have hJ:=H3 e1 r (aZ e.far r.far) g2
    have hj1:=CK e1 r (aZ e.far r.far)
    have hjs:=wy (r:=r) (b:=aZ e.far r.far) g2
    obtain⟨pr,hpr⟩:∃ p,p=dE e1 r (aZ e.far r.far):=⟨_,rfl⟩
    rw [<-hpr] at hJ hj1 hjs g4
    obtain⟨e2,l2⟩:=pr
    dsimp only at hJ hj1 hjs g4
    rw [<-List.append_assoc] at g4
    try simp (disch:=omega) only [go_sem,seval,hg,hr]
    refine ah (qC) (wv e r.far hsf) (qI 0 7) qM zF (aa 400 ?_)
    simp (disch:=omega) only [go_sem,seval]
    rcases tv e.far r.far with⟨q1,q2,q3⟩|⟨j,hj,q1,q2,q3⟩
    ·rw [q3] at hJ
     try simp (disch:=omega) only [go_sem,seval,q1]
     refine bj [(12,16)] [] [(qU [0,19]),(qU [0,12,16,1,12,4,17,2])] 7 hE (fun s=>s.at (qU [41,16]) [(9,.sc (.pt 28 0 0)),(10,.sc (.sl 27 0 l2.length))] (s.hp++(e2.hp true++[some ⟨l2.map LetterD.cs,19,36,true,true⟩,some ⟨[e2.cs 20],25,54,true,false⟩]))) (by kernel_rfl) (qC) (by kernel_rfl) ?_ (aa 400 ?_)
     rotate_left
     rotate_right
     simp only [a_]
     refine⟨ab 400 ?_,ab 400 ?_⟩
     ·simp (disch:=omega) only [go_sem,q1]
      refine aj (qC) (hJ) (qI 9 7) qM zF zF (ab 400 ?_)
      simp (disch:=omega) only [go_sem,seval]
      exact qZ (qI 0 29)
     ·simp (disch:=omega) only [go_sem,q1]
      refine aj (qC) (hJ) (qI 9 7) qM zF zF (ab 400 ?_)
      simp (disch:=omega) only [go_sem,seval]
      exact qZ (qI 0 20++qI 21 8++qI 20 1)
     try simp (disch:=omega) only [go_sem,seval]
     refine⟨qC,hN _ (i+1,e2,l++l2) (qI 0 9++qI 20 7++qI 16 2++qI 29 1) (by (try dsimp only);exact⟨zO,hjs,by simp only [RC];omega,g4⟩) (by (try dsimp only);omega) (am zF zF ?_)⟩
     try simp (disch:=omega) only [go_sem,seval]
     try simp
    rw [q3] at hJ
    have hgf:=bt (enc:=AddrD.cs) hj
    try simp (disch:=omega) only [go_sem,seval,q1]
    refine bj [(12,16)] [] [(qU [0,19]),(qU [0,12,16,1,12,4,17,2])] 7 hE (fun s=>s.at (qU [41,16]) [(9,.sc (.pt 28 0 0)),(10,.sc (.sl 27 0 l2.length))] (s.hp++(e2.hp true++[some ⟨l2.map LetterD.cs,19,36,true,true⟩,some ⟨[e2.cs 20],25,54,true,false⟩]))) (by kernel_rfl) (qC) (by kernel_rfl) ?_ (aa 400 ?_)
    rotate_left
    rotate_right
    simp only [a_]
    refine⟨ab 400 ?_,ab 400 ?_⟩
    ·simp (disch:=omega) only [go_sem,q1,hgf]
     refine aj (qC) (hJ) (qI 9 7) qM zF zF (ab 400 ?_)
     simp (disch:=omega) only [go_sem,seval]
     exact qZ (qI 0 29)
    ·simp (disch:=omega) only [go_sem,q1,hgf]
     refine aj (qC) (hJ) (qI 9 7) qM zF zF (ab 400 ?_)
     simp (disch:=omega) only [go_sem,seval]
     exact qZ (qI 0 20++qI 21 8++qI 20 1)
    try simp (disch:=omega) only [go_sem,seval]
    refine⟨qC,hN _ (i+1,e2,l++l2) (qI 0 9++qI 20 7++qI 16 2++qI 29 1) (by (try dsimp only);exact⟨zO,hjs,by simp only [RC];omega,g4⟩) (by (try dsimp only);omega) (am zF zF ?_)⟩
    try simp (disch:=omega) only [go_sem,seval]
    try simp
   rw [H4 zO,RB] at g4
   subst g4
   try simp (disch:=omega) only [go_sem,seval]
   refine aH (qI 0 7++qI 9 7++qI 18 1) (qC) _ (by simp only [go_sem];rfl) zF zF ?_
   simp (disch:=omega) only [go_sem,seval]
  rw [hf (fun h=>h2 h.2)]
  try simp (disch:=omega) only [go_sem,seval]
  refine aH (qI 0 7++qI 9 7++qO 1) (qC) _ (by simp only [go_sem];rfl) zF zF ?_
  simp (disch:=omega) only [go_sem,seval]
 rw [hf (fun h=>by rw [h1] at h;cases h.1)]
 try simp (disch:=omega) only [go_sem,seval]
 refine aH (qI 0 7++qI 9 7++qO 1) (qC) _ (by simp only [go_sem];rfl) zF zF ?_
 simp (disch:=omega) only [go_sem,seval]
def Ox (l:List AddrD):List AddrD:=l.filter fun a=> !a.told
theorem Q_ {e:EndD} (h:CA e=false):ce e=[]:=if_neg (by simp [h])
theorem Ra {e:EndD} {k:Nat} (h:CA e=true) (hk:(mo e.subs).headD 0=k) (hl:k < e.subs.length):ce e=(Ox e.own).map (oh e e.subs[k]):=by rw [ce,if_pos h,hk,bX hl];rfl
theorem H7 {l:List Nat} (h:0 < l.length):l.headD 0=l[0]:=by cases l with|nil=>simp at h|cons a r=>rfl
theorem wz (e:EndD) (hs:Small e):aP 190 [.ag (e.cs 0)] (e.hp false) (.sc (.sl 7 0 (ce e).length)) (e.hp false++[some ⟨(ce e).map LetterD.cs,19,36,true,true⟩]):=by
 have hN:=rO e (by have:=hs.subs;omega)
 have hK:=(qH (bb e))
 have hown:=hs.own
 have hf:=Q_ (e:=e)
 have ht:= @Ra e
 have hok:CA e=(ax e && decide (e.state=2) && !decide ((mo e.subs).length=0)):=rfl
 obtain⟨R,hR⟩:∃ R,R=ce e:=⟨_,rfl⟩
 rw [<-hR] at hf ht
 rw [<-hR]
 clear hR
 refine yu func190 ntmps190 results190 fun E hE=>?_
 refine qK (hN) (qI 0 7) ?_
 refine qK (hK) (qI 0 7) ?_
 refine qB (fun h1=>?_) fun h1=>?_
 ·refine qB (fun h2=>?_) fun h2=>?_
  ·by_cases h3:(mo e.subs).length=0
   ·rw [hf (by rw [hok];simp [h3])]
    try simp (disch:=omega) only [go_sem,seval,h3]
    exact jh (qI 0 7++qO 1)
   have hpos:0 < (mo e.subs).length:=zO
   have hk:=Eu hpos
   have hR:=ht (by rw [hok];simp [h1,h2,h3]) (H7 hpos) hk
   have hgo:=bt (enc:=tX) hpos
   generalize hk0:(mo e.subs)[0]=k0 at*
   have hgs:=bt (enc:=SubD.cs) hk
   generalize hss:e.subs[k0]=s0 at*
   refine qX ?_
   refine qD [0,1,2,3,4,5,6,7,8] ?_
   try simp (disch:=omega) only [go_sem,seval,hgo,hk0,tX,hgs,hss]
   refine qG ?_
   refine Eh 7 hE (fun s (y:Nat×List LetterD)=>s.at (qU [0,1,3,1,7,24,34,31]) [(33,.sc (.int .i64 (y.1:Nat))),(5,.sc (.sl 10 0 y.2.length))] ((s.hp.take 10)++[some ⟨y.2.map LetterD.cs,19,36,true,true⟩])) (fun (y:Nat×List LetterD)=>y.1<=e.own.length/\y.2.length<=y.1/\R=y.2++((e.own.drop y.1).filter (fun a=> !a.told)).map (oh e s0)) (fun (y:Nat×List LetterD)=>e.own.length - y.1) (0,[]) (qI 0 10++qO 1) (⟨Rv _,Rv _,hR⟩) fun y hy N hN=>?_
   obtain⟨i,l⟩:=y
   obtain⟨g1,g2,g3⟩:=hy
   dsimp only at g1 g2 g3
   refine qR ?_
   refine qB (fun b=>?_) fun b=>?_
   ·rw [sh b] at g3
    have hg:=bt (enc:=AddrD.cs) b
    generalize hae:e.own[i]=a at*
    try simp (disch:=omega) only [go_sem,seval,hg,hae]
    cases htd:a.told with
    |true=>
     rw [if_neg (by simp [htd])] at g3
     try simp (disch:=omega) only [go_sem,seval,htd]
     exact Qy hN (i+1,l) (qI 0 11) (by (try dsimp only);exact⟨zO,zO,g3⟩)
    |false=>
     rw [if_pos (by simp [htd]),RE] at g3
     try simp (disch:=omega) only [go_sem,seval,htd]
     refine qD [0,1,2,3,4,5,6,7,8,9,10,11,12,13,14,15,16,17,18,19,20,21,22,23,24] ?_
     refine b_ (pX e.key e.peer a.id a.addr) [] ?_
     refine b_ (bc s0.road { ac with kind:=8,tag:=⟨3,e.key,e.peer,a.id,a.addr⟩,sgn:=s0.give,id:=a.id,addr:=a.addr,spare:=a.spare }) [] ?_
     refine qG ?_
     refine⟨qC,hN _ (i+1,l++[oh e s0 a]) (qI 0 10++qI 13 1) (by (try dsimp only);exact⟨zO,by simp;omega,by simpa using g3⟩) (by (try dsimp only);omega) (am zF zF ?_)⟩
     refine qX ?_
     rw [List.map_append]
     rfl
   rw [wu zO,RF,RB] at g3
   subst g3
   refine qX ?_
   exact jh (qI 0 7++qI 10 1)
  rw [hf (by rw [hok];simp [h2])]
  refine qX ?_
  exact jh (qI 0 7++qO 1)
 rw [hf (by rw [hok];simp [h1])]
 refine qX ?_
 exact jh (qI 0 7++qO 1)
theorem tO:∀ {l acc r:List UInt8},d9 acc l=some r->r.length<=acc.length+l.length
 |a::b::l,acc,r,h=>by
  rw [d9] at h
  split at h
  ·cases h
  have:=tO h
  simp at this⊢
  omega
 |[],acc,r,h=>by simp [d9] at h;subst h;simp
 |[_],acc,r,h=>by simp [d9] at h;subst h;simp
theorem xw (l:List UInt8):(fX l).1.length<=l.length:=by
 rw [fX]
 split
 ·simp
 cases h:d9 [] l with
 |none=>simp [zW]
 |some r=>
  have:=tO h
  simpa [zW] using this
theorem sE {y:UInt8}:∀ {l:List UInt8} {acc:List (List UInt8)} {cur s:List UInt8},s∈dU y acc cur l->s∈acc\/s.length<=cur.length+l.length
 |[],acc,cur,s,h=>by
  rw [dU] at h
  rcases RJ.1 h with h|h
  ·exact .inl h
  simp at h;subst h;exact .inr zP
 |b::r,acc,cur,s,h=>by
  rw [dU] at h
  split at h
  ·rcases sE h with h|h
   ·rcases RJ.1 h with h|h
    ·exact .inl h
    simp at h;subst h;exact .inr zP
   exact .inr (by simp at h⊢;omega)
  rcases sE h with h|h
  ·exact .inl h
  exact .inr (by simp at h⊢;omega)
theorem Dz {y:UInt8} (l s:List UInt8) (h:s∈eU y l):s.length<=l.length:=by
 rcases sE h with h|h
 ·cases h
 simpa using h
theorem OQ {n:List Int} (hn:n.length=18):∃ a0 a1 a2 a3 a4 a5 a6 a7 a8 a9 a10 a11 a12 a13 a14 a15 a16 a17,n=[a0,a1,a2,a3,a4,a5,a6,a7,a8,a9,a10,a11,a12,a13,a14,a15,a16,a17]:=by
 match n,hn with
 |[a0,a1,a2,a3,a4,a5,a6,a7,a8,a9,a10,a11,a12,a13,a14,a15,a16,a17],_=>exact⟨a0,a1,a2,a3,a4,a5,a6,a7,a8,a9,a10,a11,a12,a13,a14,a15,a16,a17,rfl⟩
theorem DA (l:List (List UInt8)):(aY (l.drop 0)).map (([]:List Int)++ ·)=aY l:=by
 rw [List.drop_zero]
 cases aY l<;>rfl
theorem G3 {l:List (List UInt8)} {k:Nat} {acc:List Int} {R:Option (List Int)} (h:k < l.length) (hr:(aY (l.drop k)).map (acc++ ·)=R):(if (dC l[k]).2 then (aY (l.drop (k+1))).map ((acc++[(dC l[k]).1])++ ·) else none)=R:=by
 rw [Eq h] at hr
 rw [<-hr]
 split
 ·cases aY (l.drop (k+1)) with
  |none=>rfl
  |some m=>simp
 rfl
theorem Lu {l:List (List UInt8)} {k:Nat} {acc:List Int} {R:Option (List Int)} (h:l.length<=k) (hr:(aY (l.drop k)).map (acc++ ·)=R):R=some acc:=by
 rw [Rx h,aY] at hr
 rw [<-hr]
 simp
def xy (n:List Int):List Sc:=(lN n false []).cs
theorem I1 (n:List Int) {k:Nat} (h:k < 18):fits (xy n) k 1=true:=by
 match k,h with
 |0,_|1,_|2,_|3,_|4,_|5,_|6,_|7,_|8,_|9,_|10,_|11,_|12,_|13,_|14,_|15,_|16,_|17,_=>rfl
 |m+18,h=>exact absurd h zO
theorem Lv {n:List Int} {k:Nat} (hk:k < 18) (h16:k≠16) (v:Int) (hn:n.length=18):LH (xy n) k [.int .i64 v]=xy (n.set k v):=HC hk h16 v hn
theorem Nm (n:List Int) (v:Int):xy (n.set 16 v)=xy n:=JT v
def Nn (k:Nat):List Sc:=if k=16 then [.pt 2 0 0] else [.pt 1 0 k]
def Np:List (List Sc):=(List.range 18).map Nn
theorem Bd:Np=[[.pt 1 0 0],[.pt 1 0 1],[.pt 1 0 2],[.pt 1 0 3],[.pt 1 0 4],[.pt 1 0 5],[.pt 1 0 6],[.pt 1 0 7],[.pt 1 0 8],[.pt 1 0 9],[.pt 1 0 10],[.pt 1 0 11],[.pt 1 0 12],[.pt 1 0 13],[.pt 1 0 14],[.pt 1 0 15],[.pt 2 0 0],[.pt 1 0 17]]:=rfl
theorem DB {k:Nat} (h:k < 18):Np[k]? =some (Nn k):=by simp [Np,h]
theorem Nq:Nn 16=[.pt 2 0 0]:=rfl
theorem Nr {k:Nat} (h:k≠16):Nn k=[.pt 1 0 k]:=if_neg h
theorem FN {n:List Int} (h:n.length=18) (v:Int):bT (n.set 16 v) 16=v:=by
 simp [bT,h]
theorem I2 {n:List Int} {k:Nat} (h:k≠16) (v:Int):bT (n.set k v) 16=bT n 16:=by
 rw [bT,bT,Ry,Ry,List.getElem?_set_ne h]
theorem DC {n:List Int} {k:Nat} (h:k < n.length) (v:Int):(n.set k v).take (k+1)=n.take k++[v]:=by
 rw [Rw (by simpa using h),List.getElem_set_self,List.take_set_of_le (RA _)]
theorem G4 (ρ:cW) (n:List Int):cM ρ (xy n) (xy n):=by
 simp [xy,lN,LetterD.cs,cM,LX]
theorem nP (l:List UInt8) (hl:l.length<=1048576):aP 75 [.sc (.st l)] [] (.tu [.ag (DQ l).1.cs,.sc (.bo (DQ l).2)]) []:=by
 obtain⟨R,hR⟩:∃ R,R=DQ l:=⟨_,rfl⟩
 rw [<-hR]
 refine ao func75 (by kernel_rfl) rfl fun E hE=>aa 400 ?_
 simp (disch:=omega) only [ntmps75,results75,go_sem,Nat.reduceEqDiff,Nat.reduceAdd,Nat.reduceSub,Int.reduceAdd,Int.reduceSub,Int.reduceToNat]
 refine ah (qC) (JS l ?_) [] qM zF (aa 400 ?_)
 ·omega
 simp (disch:=omega) only [go_sem,Nat.reduceEqDiff,Nat.reduceAdd,Nat.reduceSub,Int.reduceAdd,Int.reduceSub,Int.reduceToNat]
 rw [DQ] at hR
 generalize hp:eU 44 l=p at hR
 refine ah (qC) (lO ac 0) (qI 1 2) qM zF (aa 400 ?_)
 simp (disch:=omega) only [go_sem,Nat.reduceEqDiff,Nat.reduceAdd,Nat.reduceSub,Int.reduceAdd,Int.reduceSub,Int.reduceToNat]
 split<;>rename_i h2<;>(try simp only [zR] at h2)<;>simp (disch:=omega) only [go_sem,Nat.reduceEqDiff,Nat.reduceAdd,Nat.reduceSub,Int.reduceAdd,Int.reduceSub,Int.reduceToNat,h2]<;>(try simp only [zQ] at h2)<;>try simp (disch:=omega) only [go_sem,Nat.reduceEqDiff,Nat.reduceAdd,Nat.reduceSub,Int.reduceAdd,Int.reduceSub,Int.reduceToNat]
 ·rw [if_neg zO] at hR
  subst hR
  refine ai [] (qC) _ (by simp only [go_sem];rfl) zF zF ?_
  simp (disch:=omega) only [go_sem,Nat.reduceEqDiff,Nat.reduceAdd,Nat.reduceSub,Int.reduceAdd,Int.reduceSub,Int.reduceToNat]
  try simp [ac]
 have h19:p.length=19:=zO
 rw [if_pos h19] at hR
 have hq:(p.take 18).length=18:=by simp;omega
 have hz:xy [0,0,0,0,0,0,0,0,0,0,0,0,0,0,0,0,0,0]=[.int .i64 0,.int .i64 0,.int .i64 0,.int .i64 0,.int .i64 0,.int .i64 0,.int .i64 0,.int .i64 0,.int .i64 0,.int .i64 0,.int .i64 0,.int .i64 0,.int .i64 0,.int .i64 0,.int .i64 0,.int .i64 0,.bo false,.int .i64 0,.st []]:=rfl
 have hz6:bT [0,0,0,0,0,0,0,0,0,0,0,0,0,0,0,0,0,0] 16=0:=rfl
 try simp (disch:=omega) only [go_sem,Nat.reduceEqDiff,Nat.reduceAdd,Nat.reduceSub,Int.reduceAdd,Int.reduceSub,Int.reduceToNat]
 refine ee 0 hE (fun s (x:Nat×List Int)=>s.at (qU [3,1,8,4,14,10,27,19]) [(26,.sc (.int .i64 (x.1:Nat)))] ([some ⟨[ac.cs],19,36,true,false⟩,some ⟨[xy x.2],19,36,true,false⟩,some ⟨[[.int .i64 (bT x.2 16)]],1,3,true,false⟩,some ⟨p.map aM,1,9,true,true⟩,some ⟨Np,1,164,true,false⟩])) (fun (x:Nat×List Int)=>x.1<=18/\x.2.length=18/\(aY ((p.take 18).drop x.1)).map (x.2.take x.1++ ·)=aY (p.take 18)) (fun (x:Nat×List Int)=>18 - x.1) (0,List.replicate 18 0) (qI 0 5) (qC) (⟨Rv _,rfl,DA _⟩) (ay zF zF ?_) fun x hx N hN=>?_
 ·try simp (disch:=omega) only [go_sem,Nat.reduceEqDiff,Nat.reduceAdd,Nat.reduceSub,Int.reduceAdd,Int.reduceSub,Int.reduceToNat,Bd,hz,hz6]
  try simp [ac]
 obtain⟨k,n⟩:=x
 obtain⟨hk1,hk2,hk3⟩:=hx
 dsimp only at hk1 hk2 hk3
 refine aa 400 ?_
 try simp (disch:=omega) only [go_sem,Nat.reduceEqDiff,Nat.reduceAdd,Nat.reduceSub,Int.reduceAdd,Int.reduceSub,Int.reduceToNat]
 split<;>rename_i h3<;>(try simp only [zR] at h3)<;>simp (disch:=omega) only [go_sem,Nat.reduceEqDiff,Nat.reduceAdd,Nat.reduceSub,Int.reduceAdd,Int.reduceSub,Int.reduceToNat,h3]<;>(try simp only [zQ] at h3)<;>try simp (disch:=omega) only [go_sem,Nat.reduceEqDiff,Nat.reduceAdd,Nat.reduceSub,Int.reduceAdd,Int.reduceSub,Int.reduceToNat]
 ·have hs:=G3 zO hk3
  rw [List.getElem_take] at hs
  have hkp:k < p.length:=zO
  have h18:k < 18:=zO
  by_cases h16:k=16
  ·subst h16
   try simp (disch:=omega) only [go_sem,Nat.reduceEqDiff,Nat.reduceAdd,Nat.reduceSub,Int.reduceAdd,Int.reduceSub,Int.reduceToNat,gG hkp,DB h18,Nq]
   refine ah (qC) (im _) [] qM zF (aa 400 ?_)
   simp (disch:=omega) only [go_sem,Nat.reduceEqDiff,Nat.reduceAdd,Nat.reduceSub,Int.reduceAdd,Int.reduceSub,Int.reduceToNat]
   split<;>rename_i h4<;>(try simp only [zR] at h4)<;>simp (disch:=omega) only [go_sem,Nat.reduceEqDiff,Nat.reduceAdd,Nat.reduceSub,Int.reduceAdd,Int.reduceSub,Int.reduceToNat,h4]<;>(try simp only [zQ] at h4)<;>try simp (disch:=omega) only [go_sem,Nat.reduceEqDiff,Nat.reduceAdd,Nat.reduceSub,Int.reduceAdd,Int.reduceSub,Int.reduceToNat]
   ·rw [h4,if_neg zP] at hs
    rw [<-hs,Hz] at hR
    subst hR
    refine ai [] (qC) _ (by simp only [go_sem];rfl) zF zF ?_
    simp (disch:=omega) only [go_sem,Nat.reduceEqDiff,Nat.reduceAdd,Nat.reduceSub,Int.reduceAdd,Int.reduceSub,Int.reduceToNat]
    try simp [ac]
   rw [h4,if_pos rfl,<-DC zO] at hs
   try simp (disch:=omega) only [go_sem,Nat.reduceEqDiff,Nat.reduceAdd,Nat.reduceSub,Int.reduceAdd,Int.reduceSub,Int.reduceToNat]
   refine⟨qC,hN _ (17,n.set 16 (dC p[16]).1) (qI 0 5) (by (try dsimp only);exact⟨zO,by simp;omega,hs⟩) (by (try dsimp only);omega) (ay zF zF ?_)⟩
   try simp (disch:=omega) only [go_sem,Nat.reduceEqDiff,Nat.reduceAdd,Nat.reduceSub,Int.reduceAdd,Int.reduceSub,Int.reduceToNat,Nm,FN hk2,Bd]
   exact⟨rfl,G4 _ _⟩
  have hf:=I1 n h18
  try simp (disch:=omega) only [go_sem,Nat.reduceEqDiff,Nat.reduceAdd,Nat.reduceSub,Int.reduceAdd,Int.reduceSub,Int.reduceToNat,gG hkp,DB h18,Nr h16]
  refine ah (qC) (im _) [] qM zF (aa 400 ?_)
  simp (disch:=omega) only [go_sem,Nat.reduceEqDiff,Nat.reduceAdd,Nat.reduceSub,Int.reduceAdd,Int.reduceSub,Int.reduceToNat]
  split<;>rename_i h4<;>(try simp only [zR] at h4)<;>simp (disch:=omega) only [go_sem,Nat.reduceEqDiff,Nat.reduceAdd,Nat.reduceSub,Int.reduceAdd,Int.reduceSub,Int.reduceToNat,h4]<;>(try simp only [zQ] at h4)<;>try simp (disch:=omega) only [go_sem,Nat.reduceEqDiff,Nat.reduceAdd,Nat.reduceSub,Int.reduceAdd,Int.reduceSub,Int.reduceToNat]
  ·rw [h4,if_neg zP] at hs
   rw [<-hs,Hz] at hR
   subst hR
   refine ai [] (qC) _ (by simp only [go_sem];rfl) zF zF ?_
   simp (disch:=omega) only [go_sem,Nat.reduceEqDiff,Nat.reduceAdd,Nat.reduceSub,Int.reduceAdd,Int.reduceSub,Int.reduceToNat]
   try simp [ac]
  rw [h4,if_pos rfl,<-DC zO] at hs
  try simp (disch:=omega) only [go_sem,Nat.reduceEqDiff,Nat.reduceAdd,Nat.reduceSub,Int.reduceAdd,Int.reduceSub,Int.reduceToNat,hf,Lv h18 h16 _ hk2]
  refine⟨qC,hN _ (k+1,n.set k (dC p[k]).1) (qI 0 5) (by (try dsimp only);exact⟨zO,by simp;omega,hs⟩) (by (try dsimp only);omega) (ay zF zF ?_)⟩
  try simp (disch:=omega) only [go_sem,Nat.reduceEqDiff,Nat.reduceAdd,Nat.reduceSub,Int.reduceAdd,Int.reduceSub,Int.reduceToNat,I2 h16,Bd]
  exact G4 _ _
 have hk:k=18:=zO
 subst hk
 have hn:=Lu zO hk3
 rw [show n.take 18=n from List.take_of_length_le zO] at hn
 have hwf:=mi hn
 rw [hn,Hz,Ry,List.getElem?_eq_getElem (show 18 < p.length by omega)] at hR
 simp only [Option.getD_some] at hR
 have h18:18 < p.length:=zO
 have hps:p[18].length<=1048576:=by
  have:=Dz l p[18] (by rw [hp];exact List.getElem_mem _)
  omega
 try simp (disch:=omega) only [go_sem,Nat.reduceEqDiff,Nat.reduceAdd,Nat.reduceSub,Int.reduceAdd,Int.reduceSub,Int.reduceToNat,gG h18]
 refine ah (qC) (vh _ ?_) [] qM zF (aa 400 ?_)
 ·omega
 simp (disch:=omega) only [go_sem,Nat.reduceEqDiff,Nat.reduceAdd,Nat.reduceSub,Int.reduceAdd,Int.reduceSub,Int.reduceToNat]
 have hul:=xw p[18]
 obtain⟨a0,a1,a2,a3,a4,a5,a6,a7,a8,a9,a10,a11,a12,a13,a14,a15,a16,a17,rfl⟩:=OQ hk2
 have hX:lN [a0,a1,a2,a3,a4,a5,a6,a7,a8,a9,a10,a11,a12,a13,a14,a15,a16,a17] (bT [a0,a1,a2,a3,a4,a5,a6,a7,a8,a9,a10,a11,a12,a13,a14,a15,a16,a17] 16 == 1) (fX p[18]).1=⟨a0,a1,a2,a3,a4,a5,a6,a7,a8,⟨a9,a10,a11,a12,a13⟩,a14,a15,a16 == 1,a17,(fX p[18]).1⟩:=rfl
 have hC:xy [a0,a1,a2,a3,a4,a5,a6,a7,a8,a9,a10,a11,a12,a13,a14,a15,a16,a17]=[.int .i64 a0,.int .i64 a1,.int .i64 a2,.int .i64 a3,.int .i64 a4,.int .i64 a5,.int .i64 a6,.int .i64 a7,.int .i64 a8,.int .i64 a9,.int .i64 a10,.int .i64 a11,.int .i64 a12,.int .i64 a13,.int .i64 a14,.int .i64 a15,.bo false,.int .i64 a17,.st []]:=rfl
 have h6:bT [a0,a1,a2,a3,a4,a5,a6,a7,a8,a9,a10,a11,a12,a13,a14,a15,a16,a17] 16=a16:=rfl
 have hXw:=BZ hwf (bT [a0,a1,a2,a3,a4,a5,a6,a7,a8,a9,a10,a11,a12,a13,a14,a15,a16,a17] 16 == 1) (t:=(fX p[18]).1) (by simp only [maxLen];omega)
 rw [hX] at hR hXw
 try simp (disch:=omega) only [go_sem,Nat.reduceEqDiff,Nat.reduceAdd,Nat.reduceSub,Int.reduceAdd,Int.reduceSub,Int.reduceToNat,hC,h6]
 split<;>rename_i h5<;>(try simp only [zR] at h5)<;>simp (disch:=omega) only [go_sem,Nat.reduceEqDiff,Nat.reduceAdd,Nat.reduceSub,Int.reduceAdd,Int.reduceSub,Int.reduceToNat,h5]<;>(try simp only [zQ] at h5)<;>try simp (disch:=omega) only [go_sem,Nat.reduceEqDiff,Nat.reduceAdd,Nat.reduceSub,Int.reduceAdd,Int.reduceSub,Int.reduceToNat]
 ·rw [h5] at hR
  simp only [true_and] at hR
  try simp (disch:=omega) only [go_sem,Nat.reduceEqDiff,Nat.reduceAdd,Nat.reduceSub,Int.reduceAdd,Int.reduceSub,Int.reduceToNat]
  refine ah (qC) (lP _ hXw) [] qM zF (aa 400 ?_)
  simp (disch:=omega) only [go_sem,Nat.reduceEqDiff,Nat.reduceAdd,Nat.reduceSub,Int.reduceAdd,Int.reduceSub,Int.reduceToNat]
  split<;>rename_i h7<;>(try simp only [zR] at h7)<;>simp (disch:=omega) only [go_sem,Nat.reduceEqDiff,Nat.reduceAdd,Nat.reduceSub,Int.reduceAdd,Int.reduceSub,Int.reduceToNat,h7]<;>(try simp only [zQ] at h7)<;>try simp (disch:=omega) only [go_sem,Nat.reduceEqDiff,Nat.reduceAdd,Nat.reduceSub,Int.reduceAdd,Int.reduceSub,Int.reduceToNat]
  ·rw [if_neg h7] at hR
   subst hR
   refine ai [] (qC) _ (by simp only [go_sem];rfl) zF zF ?_
   simp (disch:=omega) only [go_sem,Nat.reduceEqDiff,Nat.reduceAdd,Nat.reduceSub,Int.reduceAdd,Int.reduceSub,Int.reduceToNat]
   try simp [ac]
  rw [if_pos h7] at hR
  subst hR
  refine ai [] (qC) _ (by simp only [go_sem];rfl) zF zF ?_
  simp (disch:=omega) only [go_sem,Nat.reduceEqDiff,Nat.reduceAdd,Nat.reduceSub,Int.reduceAdd,Int.reduceSub,Int.reduceToNat]
  try simp
 rw [if_neg (by rw [h5];simp)] at hR
 subst hR
 refine ai [] (qC) _ (by simp only [go_sem];rfl) zF zF ?_
 simp (disch:=omega) only [go_sem,Nat.reduceEqDiff,Nat.reduceAdd,Nat.reduceSub,Int.reduceAdd,Int.reduceSub,Int.reduceToNat]
 try simp [ac]
inductive kO:ActD->Prop
 |write (s:Int) (t:List UInt8):(1<=s/\s<=2)->t.length<=120->kO ⟨1,s,0,0,t,ae,ac⟩
 |read (s m:Int):(1<=s/\s<=2)->(0<=m/\m<=1000000000)->kO ⟨2,s,0,m,[],ae,ac⟩
 |tick (s:Int):(1<=s/\s<=2)->kO ⟨3,s,0,0,[],ae,ac⟩
 |manage (s:Int):(1<=s/\s<=2)->kO ⟨4,s,0,0,[],ae,ac⟩
 |addr (s i d:Int) (b:Bool):(1<=s/\s<=2)->kO ⟨5,s,0,0,[],⟨i,d,b,false⟩,ac⟩
 |drop (s n:Int):(1<=s/\s<=2)->(0<=n/\n<=1000000000)->kO ⟨6,s,n,0,[],ae,ac⟩
 |reset (s n:Int):(1<=s/\s<=2)->(0<=n/\n<=1000000000)->kO ⟨7,s,n,0,[],ae,ac⟩
 |deliver (n:Int):(0<=n/\n<=1000000000)->kO ⟨8,1,n,0,[],ae,ac⟩
 |lose (n:Int):(0<=n/\n<=1000000000)->kO ⟨9,1,n,0,[],ae,ac⟩
 |copy (n:Int):(0<=n/\n<=1000000000)->kO ⟨10,1,n,0,[],ae,ac⟩
 |inject (x:LetterD):kO ⟨11,1,0,0,[],ae,x⟩
 |again (n:Int):(0<=n/\n<=1000000000)->kO ⟨12,1,n,0,[],ae,ac⟩
theorem Ns {a:ActD} (h:bG a=true) (htold:cc a=a):kO a:=by
 obtain⟨k,s,p,m,t,ad,le⟩:=a
 simp only [bG,dJ,Ru,decide_eq_true_eq,ew] at h
 obtain⟨⟨⟨hk,hs⟩,hp,hm⟩,ht⟩:=h
 replace hk:k=1\/k=2\/k=3\/k=4\/k=5\/k=6\/k=7\/k=8\/k=9\/k=10\/k=11\/k=12:=zO
 simp only [cc,ActD.mk.injEq] at htold
 obtain⟨_,e1,e2,e3,e4,e5,e6⟩:=htold
 try dsimp only at hs hp hm ht e1 e2 e3 e4 e5 e6
 rcases hk with rfl|rfl|rfl|rfl|rfl|rfl|rfl|rfl|rfl|rfl|rfl|rfl<;>simp at e1 e2 e3 e4 e5 e6<;>(try subst e1)<;>(try subst e2)<;>(try subst e3)<;>(try subst e4)<;>(try subst e5)<;>(try subst e6)
 ·exact .write _ _ hs ht
 ·exact .read _ _ hs hm
 ·exact .tick _ hs
 ·exact .manage _ hs
 ·obtain⟨i,d,b,td⟩:=ad
  simp only [AddrD.mk.injEq,true_and] at e5
  subst e5
  exact .addr _ _ _ _ hs
 ·exact .drop _ _ hs hp
 ·exact .reset _ _ hs hp
 ·exact .deliver _ hp
 ·exact .lose _ hp
 ·exact .copy _ hp
 ·exact .inject _
 exact .again _ hp
theorem lH {a:ActD} (h:¬ (bG a=true/\cc a=a)):aO a=[]:=by
 rw [aO,if_neg]
 intro hg
 simp only [actGood,Ru,decide_eq_true_eq] at hg
 exact h hg.1
theorem Bh {a:ActD} (h:bG a=true) (ht:cc a=a):aO a=if aD a then aX [32] (actParts a) else []:=by
 simp only [aO,actGood,h,ht,decide_true,Bool.true_and]
theorem j_ {n:Int} (h:0<=n/\n<=1000000000):aR n:=⟨zO,zO⟩
theorem kc {n:Int} (h:1<=n/\n<=2):aR n:=⟨zO,zO⟩
theorem Bi (a:ActD) (hw:a.wf):aP 8 [.ag a.cs] [] (.sc (.st (aO a))) []:=by
 have hT:=Bf a
 have hA:=wK a
 have hW:=x8
 simp only [actTab,aM,RE,RF] at hW
 by_cases hok:bG a=true
 ·rw [hok] at hA
  by_cases ht:cc a=a
  ·have hal:=Bh hok ht
   generalize aO a=R at hal⊢
   have hc:=Ns hok ht
   rw [ht] at hT
   clear ht hok
   cases hc with
   |write s t hs ht=>
    have d1:=bL (kc hs)
    have ns:eg s=true:=ew.2 zO
    have hx:=zY t
    refine ao func8 (by kernel_rfl) rfl fun E hE=>aa 400 ?_
    simp (disch:=omega) only [ntmps8,results8,go_sem,Nat.reduceEqDiff,Nat.reduceAdd,Nat.reduceSub,Int.reduceAdd,Int.reduceSub,Int.reduceToNat]
    refine ak [0,1,2,3,4,6,5,7,8] (by kernel_rfl) (qC) (by kernel_rfl) (ab 400 ?_)
    simp (disch:=omega) only [go_sem,Nat.reduceEqDiff,Nat.reduceAdd,Nat.reduceSub,Int.reduceAdd,Int.reduceSub,Int.reduceToNat]
    refine aj (qC) (hA) [] qM zF zF (ab 400 ?_)
    simp (disch:=omega) only [go_sem,Nat.reduceEqDiff,Nat.reduceAdd,Nat.reduceSub,Int.reduceAdd,Int.reduceSub,Int.reduceToNat]
    refine aj (qC) (hT) [] qM zF zF (ab 400 ?_)
    simp (disch:=omega) only [go_sem,Nat.reduceEqDiff,Nat.reduceAdd,Nat.reduceSub,Int.reduceAdd,Int.reduceSub,Int.reduceToNat]
    refine⟨qC,aa 400 ?_⟩
    try simp (disch:=omega) only [go_sem,Nat.reduceEqDiff,Nat.reduceAdd,Nat.reduceSub,Int.reduceAdd,Int.reduceSub,Int.reduceToNat]
    refine ak [1,2,0,3,4,5] (by kernel_rfl) (qC) (by kernel_rfl) (ab 400 ?_)
    simp (disch:=omega) only [go_sem,Nat.reduceEqDiff,Nat.reduceAdd,Nat.reduceSub,Int.reduceAdd,Int.reduceSub,Int.reduceToNat]
    refine aj (qC) (hW) [] qM zF zF (ab 400 ?_)
    simp (disch:=omega) only [go_sem,Nat.reduceEqDiff,Nat.reduceAdd,Nat.reduceSub,Int.reduceAdd,Int.reduceSub,Int.reduceToNat]
    refine⟨qC,aa 400 ?_⟩
    try simp (disch:=omega) only [go_sem,Nat.reduceEqDiff,Nat.reduceAdd,Nat.reduceSub,Int.reduceAdd,Int.reduceSub,Int.reduceToNat]
    refine ah (qC) (ba s (kc hs)) [] qM zF (aa 400 ?_)
    simp (disch:=omega) only [go_sem,Nat.reduceEqDiff,Nat.reduceAdd,Nat.reduceSub,Int.reduceAdd,Int.reduceSub,Int.reduceToNat]
    refine ah (qC) (BX t) [] qM zF (aa 400 ?_)
    simp (disch:=omega) only [go_sem,Nat.reduceEqDiff,Nat.reduceAdd,Nat.reduceSub,Int.reduceAdd,Int.reduceSub,Int.reduceToNat]
    split<;>rename_i he<;>(try simp only [zR] at he)<;>simp (disch:=omega) only [go_sem,Nat.reduceEqDiff,Nat.reduceAdd,Nat.reduceSub,Int.reduceAdd,Int.reduceSub,Int.reduceToNat,he]<;>(try simp only [zQ] at he)<;>try simp (disch:=omega) only [go_sem,Nat.reduceEqDiff,Nat.reduceAdd,Nat.reduceSub,Int.reduceAdd,Int.reduceSub,Int.reduceToNat]
    ·refine ai [] (qC) _ (by simp only [go_sem];rfl) zF zF ?_
     simp (disch:=omega) only [go_sem,Nat.reduceEqDiff,Nat.reduceAdd,Nat.reduceSub,Int.reduceAdd,Int.reduceSub,Int.reduceToNat]
     simp [hal,aD,actParts,aG,cy,aX,cg,actTab,ns,mj,he]
    refine ai [] (qC) _ (by simp only [go_sem];rfl) zF zF ?_
    simp (disch:=omega) only [go_sem,Nat.reduceEqDiff,Nat.reduceAdd,Nat.reduceSub,Int.reduceAdd,Int.reduceSub,Int.reduceToNat]
    simp [hal,aD,actParts,aG,cy,aX,cg,actTab,ns,mj,he]
   |read s m hs hm=>
    have d1:=bL (kc hs)
    have ns:eg s=true:=ew.2 zO
    have d2:=bL (j_ hm)
    have nm:eg m=true:=ew.2 hm
    refine ao func8 (by kernel_rfl) rfl fun E hE=>aa 400 ?_
    simp (disch:=omega) only [ntmps8,results8,go_sem,Nat.reduceEqDiff,Nat.reduceAdd,Nat.reduceSub,Int.reduceAdd,Int.reduceSub,Int.reduceToNat]
    refine ak [0,1,2,3,4,6,5,7,8] (by kernel_rfl) (qC) (by kernel_rfl) (ab 400 ?_)
    simp (disch:=omega) only [go_sem,Nat.reduceEqDiff,Nat.reduceAdd,Nat.reduceSub,Int.reduceAdd,Int.reduceSub,Int.reduceToNat]
    refine aj (qC) (hA) [] qM zF zF (ab 400 ?_)
    simp (disch:=omega) only [go_sem,Nat.reduceEqDiff,Nat.reduceAdd,Nat.reduceSub,Int.reduceAdd,Int.reduceSub,Int.reduceToNat]
    refine aj (qC) (hT) [] qM zF zF (ab 400 ?_)
    simp (disch:=omega) only [go_sem,Nat.reduceEqDiff,Nat.reduceAdd,Nat.reduceSub,Int.reduceAdd,Int.reduceSub,Int.reduceToNat]
    refine⟨qC,aa 400 ?_⟩
    try simp (disch:=omega) only [go_sem,Nat.reduceEqDiff,Nat.reduceAdd,Nat.reduceSub,Int.reduceAdd,Int.reduceSub,Int.reduceToNat]
    refine ak [1,2,0,3,4,5] (by kernel_rfl) (qC) (by kernel_rfl) (ab 400 ?_)
    simp (disch:=omega) only [go_sem,Nat.reduceEqDiff,Nat.reduceAdd,Nat.reduceSub,Int.reduceAdd,Int.reduceSub,Int.reduceToNat]
    refine aj (qC) (hW) [] qM zF zF (ab 400 ?_)
    simp (disch:=omega) only [go_sem,Nat.reduceEqDiff,Nat.reduceAdd,Nat.reduceSub,Int.reduceAdd,Int.reduceSub,Int.reduceToNat]
    refine⟨qC,aa 400 ?_⟩
    try simp (disch:=omega) only [go_sem,Nat.reduceEqDiff,Nat.reduceAdd,Nat.reduceSub,Int.reduceAdd,Int.reduceSub,Int.reduceToNat]
    refine ah (qC) (ba s (kc hs)) [] qM zF (aa 400 ?_)
    simp (disch:=omega) only [go_sem,Nat.reduceEqDiff,Nat.reduceAdd,Nat.reduceSub,Int.reduceAdd,Int.reduceSub,Int.reduceToNat]
    refine ah (qC) (ba m (j_ hm)) [] qM zF (aa 400 ?_)
    simp (disch:=omega) only [go_sem,Nat.reduceEqDiff,Nat.reduceAdd,Nat.reduceSub,Int.reduceAdd,Int.reduceSub,Int.reduceToNat]
    refine ai [] (qC) _ (by simp only [go_sem];rfl) zF zF ?_
    simp (disch:=omega) only [go_sem,Nat.reduceEqDiff,Nat.reduceAdd,Nat.reduceSub,Int.reduceAdd,Int.reduceSub,Int.reduceToNat]
    simp [hal,aD,actParts,aG,cy,aX,cg,actTab,ns,nm]
   |tick s hs=>
    have d1:=bL (kc hs)
    have ns:eg s=true:=ew.2 zO
    refine ao func8 (by kernel_rfl) rfl fun E hE=>aa 400 ?_
    simp (disch:=omega) only [ntmps8,results8,go_sem,Nat.reduceEqDiff,Nat.reduceAdd,Nat.reduceSub,Int.reduceAdd,Int.reduceSub,Int.reduceToNat]
    refine ak [0,1,2,3,4,6,5,7,8] (by kernel_rfl) (qC) (by kernel_rfl) (ab 400 ?_)
    simp (disch:=omega) only [go_sem,Nat.reduceEqDiff,Nat.reduceAdd,Nat.reduceSub,Int.reduceAdd,Int.reduceSub,Int.reduceToNat]
    refine aj (qC) (hA) [] qM zF zF (ab 400 ?_)
    simp (disch:=omega) only [go_sem,Nat.reduceEqDiff,Nat.reduceAdd,Nat.reduceSub,Int.reduceAdd,Int.reduceSub,Int.reduceToNat]
    refine aj (qC) (hT) [] qM zF zF (ab 400 ?_)
    simp (disch:=omega) only [go_sem,Nat.reduceEqDiff,Nat.reduceAdd,Nat.reduceSub,Int.reduceAdd,Int.reduceSub,Int.reduceToNat]
    refine⟨qC,aa 400 ?_⟩
    try simp (disch:=omega) only [go_sem,Nat.reduceEqDiff,Nat.reduceAdd,Nat.reduceSub,Int.reduceAdd,Int.reduceSub,Int.reduceToNat]
    refine ak [1,2,0,3,4,5] (by kernel_rfl) (qC) (by kernel_rfl) (ab 400 ?_)
    simp (disch:=omega) only [go_sem,Nat.reduceEqDiff,Nat.reduceAdd,Nat.reduceSub,Int.reduceAdd,Int.reduceSub,Int.reduceToNat]
    refine aj (qC) (hW) [] qM zF zF (ab 400 ?_)
    simp (disch:=omega) only [go_sem,Nat.reduceEqDiff,Nat.reduceAdd,Nat.reduceSub,Int.reduceAdd,Int.reduceSub,Int.reduceToNat]
    refine⟨qC,aa 400 ?_⟩
    try simp (disch:=omega) only [go_sem,Nat.reduceEqDiff,Nat.reduceAdd,Nat.reduceSub,Int.reduceAdd,Int.reduceSub,Int.reduceToNat]
    refine ah (qC) (ba s (kc hs)) [] qM zF (aa 400 ?_)
    simp (disch:=omega) only [go_sem,Nat.reduceEqDiff,Nat.reduceAdd,Nat.reduceSub,Int.reduceAdd,Int.reduceSub,Int.reduceToNat]
    refine ai [] (qC) _ (by simp only [go_sem];rfl) zF zF ?_
    simp (disch:=omega) only [go_sem,Nat.reduceEqDiff,Nat.reduceAdd,Nat.reduceSub,Int.reduceAdd,Int.reduceSub,Int.reduceToNat]
    simp [hal,aD,actParts,aG,cy,aX,cg,actTab,ns]
   |manage s hs=>
    have d1:=bL (kc hs)
    have ns:eg s=true:=ew.2 zO
    refine ao func8 (by kernel_rfl) rfl fun E hE=>aa 400 ?_
    simp (disch:=omega) only [ntmps8,results8,go_sem,Nat.reduceEqDiff,Nat.reduceAdd,Nat.reduceSub,Int.reduceAdd,Int.reduceSub,Int.reduceToNat]
    refine ak [0,1,2,3,4,6,5,7,8] (by kernel_rfl) (qC) (by kernel_rfl) (ab 400 ?_)
    simp (disch:=omega) only [go_sem,Nat.reduceEqDiff,Nat.reduceAdd,Nat.reduceSub,Int.reduceAdd,Int.reduceSub,Int.reduceToNat]
    refine aj (qC) (hA) [] qM zF zF (ab 400 ?_)
    simp (disch:=omega) only [go_sem,Nat.reduceEqDiff,Nat.reduceAdd,Nat.reduceSub,Int.reduceAdd,Int.reduceSub,Int.reduceToNat]
    refine aj (qC) (hT) [] qM zF zF (ab 400 ?_)
    simp (disch:=omega) only [go_sem,Nat.reduceEqDiff,Nat.reduceAdd,Nat.reduceSub,Int.reduceAdd,Int.reduceSub,Int.reduceToNat]
    refine⟨qC,aa 400 ?_⟩
    try simp (disch:=omega) only [go_sem,Nat.reduceEqDiff,Nat.reduceAdd,Nat.reduceSub,Int.reduceAdd,Int.reduceSub,Int.reduceToNat]
    refine ak [1,2,0,3,4,5] (by kernel_rfl) (qC) (by kernel_rfl) (ab 400 ?_)
    simp (disch:=omega) only [go_sem,Nat.reduceEqDiff,Nat.reduceAdd,Nat.reduceSub,Int.reduceAdd,Int.reduceSub,Int.reduceToNat]
    refine aj (qC) (hW) [] qM zF zF (ab 400 ?_)
    simp (disch:=omega) only [go_sem,Nat.reduceEqDiff,Nat.reduceAdd,Nat.reduceSub,Int.reduceAdd,Int.reduceSub,Int.reduceToNat]
    refine⟨qC,aa 400 ?_⟩
    try simp (disch:=omega) only [go_sem,Nat.reduceEqDiff,Nat.reduceAdd,Nat.reduceSub,Int.reduceAdd,Int.reduceSub,Int.reduceToNat]
    refine ah (qC) (ba s (kc hs)) [] qM zF (aa 400 ?_)
    simp (disch:=omega) only [go_sem,Nat.reduceEqDiff,Nat.reduceAdd,Nat.reduceSub,Int.reduceAdd,Int.reduceSub,Int.reduceToNat]
    refine ai [] (qC) _ (by simp only [go_sem];rfl) zF zF ?_
    simp (disch:=omega) only [go_sem,Nat.reduceEqDiff,Nat.reduceAdd,Nat.reduceSub,Int.reduceAdd,Int.reduceSub,Int.reduceToNat]
    simp [hal,aD,actParts,aG,cy,aX,cg,actTab,ns]
   |drop s n hs hn=>
    have d1:=bL (kc hs)
    have ns:eg s=true:=ew.2 zO
    have d2:=bL (j_ hn)
    have nn:eg n=true:=ew.2 hn
    refine ao func8 (by kernel_rfl) rfl fun E hE=>aa 400 ?_
    simp (disch:=omega) only [ntmps8,results8,go_sem,Nat.reduceEqDiff,Nat.reduceAdd,Nat.reduceSub,Int.reduceAdd,Int.reduceSub,Int.reduceToNat]
    refine ak [0,1,2,3,4,6,5,7,8] (by kernel_rfl) (qC) (by kernel_rfl) (ab 400 ?_)
    simp (disch:=omega) only [go_sem,Nat.reduceEqDiff,Nat.reduceAdd,Nat.reduceSub,Int.reduceAdd,Int.reduceSub,Int.reduceToNat]
    refine aj (qC) (hA) [] qM zF zF (ab 400 ?_)
    simp (disch:=omega) only [go_sem,Nat.reduceEqDiff,Nat.reduceAdd,Nat.reduceSub,Int.reduceAdd,Int.reduceSub,Int.reduceToNat]
    refine aj (qC) (hT) [] qM zF zF (ab 400 ?_)
    simp (disch:=omega) only [go_sem,Nat.reduceEqDiff,Nat.reduceAdd,Nat.reduceSub,Int.reduceAdd,Int.reduceSub,Int.reduceToNat]
    refine⟨qC,aa 400 ?_⟩
    try simp (disch:=omega) only [go_sem,Nat.reduceEqDiff,Nat.reduceAdd,Nat.reduceSub,Int.reduceAdd,Int.reduceSub,Int.reduceToNat]
    refine ak [1,2,0,3,4,5] (by kernel_rfl) (qC) (by kernel_rfl) (ab 400 ?_)
    simp (disch:=omega) only [go_sem,Nat.reduceEqDiff,Nat.reduceAdd,Nat.reduceSub,Int.reduceAdd,Int.reduceSub,Int.reduceToNat]
    refine aj (qC) (hW) [] qM zF zF (ab 400 ?_)
    simp (disch:=omega) only [go_sem,Nat.reduceEqDiff,Nat.reduceAdd,Nat.reduceSub,Int.reduceAdd,Int.reduceSub,Int.reduceToNat]
    refine⟨qC,aa 400 ?_⟩
    try simp (disch:=omega) only [go_sem,Nat.reduceEqDiff,Nat.reduceAdd,Nat.reduceSub,Int.reduceAdd,Int.reduceSub,Int.reduceToNat]
    refine ah (qC) (ba s (kc hs)) [] qM zF (aa 400 ?_)
    simp (disch:=omega) only [go_sem,Nat.reduceEqDiff,Nat.reduceAdd,Nat.reduceSub,Int.reduceAdd,Int.reduceSub,Int.reduceToNat]
    refine ah (qC) (ba n (j_ hn)) [] qM zF (aa 400 ?_)
    simp (disch:=omega) only [go_sem,Nat.reduceEqDiff,Nat.reduceAdd,Nat.reduceSub,Int.reduceAdd,Int.reduceSub,Int.reduceToNat]
    refine ai [] (qC) _ (by simp only [go_sem];rfl) zF zF ?_
    simp (disch:=omega) only [go_sem,Nat.reduceEqDiff,Nat.reduceAdd,Nat.reduceSub,Int.reduceAdd,Int.reduceSub,Int.reduceToNat]
    simp [hal,aD,actParts,aG,cy,aX,cg,actTab,ns,nn]
   |reset s n hs hn=>
    have d1:=bL (kc hs)
    have ns:eg s=true:=ew.2 zO
    have d2:=bL (j_ hn)
    have nn:eg n=true:=ew.2 hn
    refine ao func8 (by kernel_rfl) rfl fun E hE=>aa 400 ?_
    simp (disch:=omega) only [ntmps8,results8,go_sem,Nat.reduceEqDiff,Nat.reduceAdd,Nat.reduceSub,Int.reduceAdd,Int.reduceSub,Int.reduceToNat]
    refine ak [0,1,2,3,4,6,5,7,8] (by kernel_rfl) (qC) (by kernel_rfl) (ab 400 ?_)
    simp (disch:=omega) only [go_sem,Nat.reduceEqDiff,Nat.reduceAdd,Nat.reduceSub,Int.reduceAdd,Int.reduceSub,Int.reduceToNat]
    refine aj (qC) (hA) [] qM zF zF (ab 400 ?_)
    simp (disch:=omega) only [go_sem,Nat.reduceEqDiff,Nat.reduceAdd,Nat.reduceSub,Int.reduceAdd,Int.reduceSub,Int.reduceToNat]
    refine aj (qC) (hT) [] qM zF zF (ab 400 ?_)
    simp (disch:=omega) only [go_sem,Nat.reduceEqDiff,Nat.reduceAdd,Nat.reduceSub,Int.reduceAdd,Int.reduceSub,Int.reduceToNat]
    refine⟨qC,aa 400 ?_⟩
    try simp (disch:=omega) only [go_sem,Nat.reduceEqDiff,Nat.reduceAdd,Nat.reduceSub,Int.reduceAdd,Int.reduceSub,Int.reduceToNat]
    refine ak [1,2,0,3,4,5] (by kernel_rfl) (qC) (by kernel_rfl) (ab 400 ?_)
    simp (disch:=omega) only [go_sem,Nat.reduceEqDiff,Nat.reduceAdd,Nat.reduceSub,Int.reduceAdd,Int.reduceSub,Int.reduceToNat]
    refine aj (qC) (hW) [] qM zF zF (ab 400 ?_)
    simp (disch:=omega) only [go_sem,Nat.reduceEqDiff,Nat.reduceAdd,Nat.reduceSub,Int.reduceAdd,Int.reduceSub,Int.reduceToNat]
    refine⟨qC,aa 400 ?_⟩
    try simp (disch:=omega) only [go_sem,Nat.reduceEqDiff,Nat.reduceAdd,Nat.reduceSub,Int.reduceAdd,Int.reduceSub,Int.reduceToNat]
    refine ah (qC) (ba s (kc hs)) [] qM zF (aa 400 ?_)
    simp (disch:=omega) only [go_sem,Nat.reduceEqDiff,Nat.reduceAdd,Nat.reduceSub,Int.reduceAdd,Int.reduceSub,Int.reduceToNat]
    refine ah (qC) (ba n (j_ hn)) [] qM zF (aa 400 ?_)
    simp (disch:=omega) only [go_sem,Nat.reduceEqDiff,Nat.reduceAdd,Nat.reduceSub,Int.reduceAdd,Int.reduceSub,Int.reduceToNat]
    refine ai [] (qC) _ (by simp only [go_sem];rfl) zF zF ?_
    simp (disch:=omega) only [go_sem,Nat.reduceEqDiff,Nat.reduceAdd,Nat.reduceSub,Int.reduceAdd,Int.reduceSub,Int.reduceToNat]
    simp [hal,aD,actParts,aG,cy,aX,cg,actTab,ns,nn]
   |deliver n hn=>
    have d2:=bL (j_ hn)
    have ns:eg n=true:=ew.2 hn
    refine ao func8 (by kernel_rfl) rfl fun E hE=>aa 400 ?_
    simp (disch:=omega) only [ntmps8,results8,go_sem,Nat.reduceEqDiff,Nat.reduceAdd,Nat.reduceSub,Int.reduceAdd,Int.reduceSub,Int.reduceToNat]
    refine ak [0,1,2,3,4,6,5,7,8] (by kernel_rfl) (qC) (by kernel_rfl) (ab 400 ?_)
    simp (disch:=omega) only [go_sem,Nat.reduceEqDiff,Nat.reduceAdd,Nat.reduceSub,Int.reduceAdd,Int.reduceSub,Int.reduceToNat]
    refine aj (qC) (hA) [] qM zF zF (ab 400 ?_)
    simp (disch:=omega) only [go_sem,Nat.reduceEqDiff,Nat.reduceAdd,Nat.reduceSub,Int.reduceAdd,Int.reduceSub,Int.reduceToNat]
    refine aj (qC) (hT) [] qM zF zF (ab 400 ?_)
    simp (disch:=omega) only [go_sem,Nat.reduceEqDiff,Nat.reduceAdd,Nat.reduceSub,Int.reduceAdd,Int.reduceSub,Int.reduceToNat]
    refine⟨qC,aa 400 ?_⟩
    try simp (disch:=omega) only [go_sem,Nat.reduceEqDiff,Nat.reduceAdd,Nat.reduceSub,Int.reduceAdd,Int.reduceSub,Int.reduceToNat]
    refine ak [1,2,0,3,4,5] (by kernel_rfl) (qC) (by kernel_rfl) (ab 400 ?_)
    simp (disch:=omega) only [go_sem,Nat.reduceEqDiff,Nat.reduceAdd,Nat.reduceSub,Int.reduceAdd,Int.reduceSub,Int.reduceToNat]
    refine aj (qC) (hW) [] qM zF zF (ab 400 ?_)
    simp (disch:=omega) only [go_sem,Nat.reduceEqDiff,Nat.reduceAdd,Nat.reduceSub,Int.reduceAdd,Int.reduceSub,Int.reduceToNat]
    refine⟨qC,aa 400 ?_⟩
    try simp (disch:=omega) only [go_sem,Nat.reduceEqDiff,Nat.reduceAdd,Nat.reduceSub,Int.reduceAdd,Int.reduceSub,Int.reduceToNat]
    refine ah (qC) (ba n (j_ hn)) [] qM zF (aa 400 ?_)
    simp (disch:=omega) only [go_sem,Nat.reduceEqDiff,Nat.reduceAdd,Nat.reduceSub,Int.reduceAdd,Int.reduceSub,Int.reduceToNat]
    refine ai [] (qC) _ (by simp only [go_sem];rfl) zF zF ?_
    simp (disch:=omega) only [go_sem,Nat.reduceEqDiff,Nat.reduceAdd,Nat.reduceSub,Int.reduceAdd,Int.reduceSub,Int.reduceToNat]
    simp [hal,aD,actParts,aG,cy,aX,cg,actTab,ns]
   |lose n hn=>
    have d2:=bL (j_ hn)
    have ns:eg n=true:=ew.2 hn
    refine ao func8 (by kernel_rfl) rfl fun E hE=>aa 400 ?_
    simp (disch:=omega) only [ntmps8,results8,go_sem,Nat.reduceEqDiff,Nat.reduceAdd,Nat.reduceSub,Int.reduceAdd,Int.reduceSub,Int.reduceToNat]
    refine ak [0,1,2,3,4,6,5,7,8] (by kernel_rfl) (qC) (by kernel_rfl) (ab 400 ?_)
    simp (disch:=omega) only [go_sem,Nat.reduceEqDiff,Nat.reduceAdd,Nat.reduceSub,Int.reduceAdd,Int.reduceSub,Int.reduceToNat]
    refine aj (qC) (hA) [] qM zF zF (ab 400 ?_)
    simp (disch:=omega) only [go_sem,Nat.reduceEqDiff,Nat.reduceAdd,Nat.reduceSub,Int.reduceAdd,Int.reduceSub,Int.reduceToNat]
    refine aj (qC) (hT) [] qM zF zF (ab 400 ?_)
    simp (disch:=omega) only [go_sem,Nat.reduceEqDiff,Nat.reduceAdd,Nat.reduceSub,Int.reduceAdd,Int.reduceSub,Int.reduceToNat]
    refine⟨qC,aa 400 ?_⟩
    try simp (disch:=omega) only [go_sem,Nat.reduceEqDiff,Nat.reduceAdd,Nat.reduceSub,Int.reduceAdd,Int.reduceSub,Int.reduceToNat]
    refine ak [1,2,0,3,4,5] (by kernel_rfl) (qC) (by kernel_rfl) (ab 400 ?_)
    simp (disch:=omega) only [go_sem,Nat.reduceEqDiff,Nat.reduceAdd,Nat.reduceSub,Int.reduceAdd,Int.reduceSub,Int.reduceToNat]
    refine aj (qC) (hW) [] qM zF zF (ab 400 ?_)
    simp (disch:=omega) only [go_sem,Nat.reduceEqDiff,Nat.reduceAdd,Nat.reduceSub,Int.reduceAdd,Int.reduceSub,Int.reduceToNat]
    refine⟨qC,aa 400 ?_⟩
    try simp (disch:=omega) only [go_sem,Nat.reduceEqDiff,Nat.reduceAdd,Nat.reduceSub,Int.reduceAdd,Int.reduceSub,Int.reduceToNat]
    refine ah (qC) (ba n (j_ hn)) [] qM zF (aa 400 ?_)
    simp (disch:=omega) only [go_sem,Nat.reduceEqDiff,Nat.reduceAdd,Nat.reduceSub,Int.reduceAdd,Int.reduceSub,Int.reduceToNat]
    refine ai [] (qC) _ (by simp only [go_sem];rfl) zF zF ?_
    simp (disch:=omega) only [go_sem,Nat.reduceEqDiff,Nat.reduceAdd,Nat.reduceSub,Int.reduceAdd,Int.reduceSub,Int.reduceToNat]
    simp [hal,aD,actParts,aG,cy,aX,cg,actTab,ns]
   |copy n hn=>
    have d2:=bL (j_ hn)
    have ns:eg n=true:=ew.2 hn
    refine ao func8 (by kernel_rfl) rfl fun E hE=>aa 400 ?_
    simp (disch:=omega) only [ntmps8,results8,go_sem,Nat.reduceEqDiff,Nat.reduceAdd,Nat.reduceSub,Int.reduceAdd,Int.reduceSub,Int.reduceToNat]
    refine ak [0,1,2,3,4,6,5,7,8] (by kernel_rfl) (qC) (by kernel_rfl) (ab 400 ?_)
    simp (disch:=omega) only [go_sem,Nat.reduceEqDiff,Nat.reduceAdd,Nat.reduceSub,Int.reduceAdd,Int.reduceSub,Int.reduceToNat]
    refine aj (qC) (hA) [] qM zF zF (ab 400 ?_)
    simp (disch:=omega) only [go_sem,Nat.reduceEqDiff,Nat.reduceAdd,Nat.reduceSub,Int.reduceAdd,Int.reduceSub,Int.reduceToNat]
    refine aj (qC) (hT) [] qM zF zF (ab 400 ?_)
    simp (disch:=omega) only [go_sem,Nat.reduceEqDiff,Nat.reduceAdd,Nat.reduceSub,Int.reduceAdd,Int.reduceSub,Int.reduceToNat]
    refine⟨qC,aa 400 ?_⟩
    try simp (disch:=omega) only [go_sem,Nat.reduceEqDiff,Nat.reduceAdd,Nat.reduceSub,Int.reduceAdd,Int.reduceSub,Int.reduceToNat]
    refine ak [1,2,0,3,4,5] (by kernel_rfl) (qC) (by kernel_rfl) (ab 400 ?_)
    simp (disch:=omega) only [go_sem,Nat.reduceEqDiff,Nat.reduceAdd,Nat.reduceSub,Int.reduceAdd,Int.reduceSub,Int.reduceToNat]
    refine aj (qC) (hW) [] qM zF zF (ab 400 ?_)
    simp (disch:=omega) only [go_sem,Nat.reduceEqDiff,Nat.reduceAdd,Nat.reduceSub,Int.reduceAdd,Int.reduceSub,Int.reduceToNat]
    refine⟨qC,aa 400 ?_⟩
    try simp (disch:=omega) only [go_sem,Nat.reduceEqDiff,Nat.reduceAdd,Nat.reduceSub,Int.reduceAdd,Int.reduceSub,Int.reduceToNat]
    refine ah (qC) (ba n (j_ hn)) [] qM zF (aa 400 ?_)
    simp (disch:=omega) only [go_sem,Nat.reduceEqDiff,Nat.reduceAdd,Nat.reduceSub,Int.reduceAdd,Int.reduceSub,Int.reduceToNat]
    refine ai [] (qC) _ (by simp only [go_sem];rfl) zF zF ?_
    simp (disch:=omega) only [go_sem,Nat.reduceEqDiff,Nat.reduceAdd,Nat.reduceSub,Int.reduceAdd,Int.reduceSub,Int.reduceToNat]
    simp [hal,aD,actParts,aG,cy,aX,cg,actTab,ns]
   |again n hn=>
    have d2:=bL (j_ hn)
    have ns:eg n=true:=ew.2 hn
    refine ao func8 (by kernel_rfl) rfl fun E hE=>aa 400 ?_
    simp (disch:=omega) only [ntmps8,results8,go_sem,Nat.reduceEqDiff,Nat.reduceAdd,Nat.reduceSub,Int.reduceAdd,Int.reduceSub,Int.reduceToNat]
    refine ak [0,1,2,3,4,6,5,7,8] (by kernel_rfl) (qC) (by kernel_rfl) (ab 400 ?_)
    simp (disch:=omega) only [go_sem,Nat.reduceEqDiff,Nat.reduceAdd,Nat.reduceSub,Int.reduceAdd,Int.reduceSub,Int.reduceToNat]
    refine aj (qC) (hA) [] qM zF zF (ab 400 ?_)
    simp (disch:=omega) only [go_sem,Nat.reduceEqDiff,Nat.reduceAdd,Nat.reduceSub,Int.reduceAdd,Int.reduceSub,Int.reduceToNat]
    refine aj (qC) (hT) [] qM zF zF (ab 400 ?_)
    simp (disch:=omega) only [go_sem,Nat.reduceEqDiff,Nat.reduceAdd,Nat.reduceSub,Int.reduceAdd,Int.reduceSub,Int.reduceToNat]
    refine⟨qC,aa 400 ?_⟩
    try simp (disch:=omega) only [go_sem,Nat.reduceEqDiff,Nat.reduceAdd,Nat.reduceSub,Int.reduceAdd,Int.reduceSub,Int.reduceToNat]
    refine ak [1,2,0,3,4,5] (by kernel_rfl) (qC) (by kernel_rfl) (ab 400 ?_)
    simp (disch:=omega) only [go_sem,Nat.reduceEqDiff,Nat.reduceAdd,Nat.reduceSub,Int.reduceAdd,Int.reduceSub,Int.reduceToNat]
    refine aj (qC) (hW) [] qM zF zF (ab 400 ?_)
    simp (disch:=omega) only [go_sem,Nat.reduceEqDiff,Nat.reduceAdd,Nat.reduceSub,Int.reduceAdd,Int.reduceSub,Int.reduceToNat]
    refine⟨qC,aa 400 ?_⟩
    try simp (disch:=omega) only [go_sem,Nat.reduceEqDiff,Nat.reduceAdd,Nat.reduceSub,Int.reduceAdd,Int.reduceSub,Int.reduceToNat]
    refine ah (qC) (ba n (j_ hn)) [] qM zF (aa 400 ?_)
    simp (disch:=omega) only [go_sem,Nat.reduceEqDiff,Nat.reduceAdd,Nat.reduceSub,Int.reduceAdd,Int.reduceSub,Int.reduceToNat]
    refine ai [] (qC) _ (by simp only [go_sem];rfl) zF zF ?_
    simp (disch:=omega) only [go_sem,Nat.reduceEqDiff,Nat.reduceAdd,Nat.reduceSub,Int.reduceAdd,Int.reduceSub,Int.reduceToNat]
    simp [hal,aD,actParts,aG,cy,aX,cg,actTab,ns]
   |inject x=>
    have hx:x.wf:=hw.2.2.2.2.2.2.2
    have hl:=mh x
    have ns:eg 1=true:=by decide
    refine ao func8 (by kernel_rfl) rfl fun E hE=>aa 400 ?_
    simp (disch:=omega) only [ntmps8,results8,go_sem,Nat.reduceEqDiff,Nat.reduceAdd,Nat.reduceSub,Int.reduceAdd,Int.reduceSub,Int.reduceToNat]
    refine ak [0,1,2,3,4,6,5,7,8] (by kernel_rfl) (qC) (by kernel_rfl) (ab 400 ?_)
    simp (disch:=omega) only [go_sem,Nat.reduceEqDiff,Nat.reduceAdd,Nat.reduceSub,Int.reduceAdd,Int.reduceSub,Int.reduceToNat]
    refine aj (qC) (hA) [] qM zF zF (ab 400 ?_)
    simp (disch:=omega) only [go_sem,Nat.reduceEqDiff,Nat.reduceAdd,Nat.reduceSub,Int.reduceAdd,Int.reduceSub,Int.reduceToNat]
    refine aj (qC) (hT) [] qM zF zF (ab 400 ?_)
    simp (disch:=omega) only [go_sem,Nat.reduceEqDiff,Nat.reduceAdd,Nat.reduceSub,Int.reduceAdd,Int.reduceSub,Int.reduceToNat]
    refine⟨qC,aa 400 ?_⟩
    try simp (disch:=omega) only [go_sem,Nat.reduceEqDiff,Nat.reduceAdd,Nat.reduceSub,Int.reduceAdd,Int.reduceSub,Int.reduceToNat]
    refine ak [1,2,0,3,4,5] (by kernel_rfl) (qC) (by kernel_rfl) (ab 400 ?_)
    simp (disch:=omega) only [go_sem,Nat.reduceEqDiff,Nat.reduceAdd,Nat.reduceSub,Int.reduceAdd,Int.reduceSub,Int.reduceToNat]
    refine aj (qC) (hW) [] qM zF zF (ab 400 ?_)
    simp (disch:=omega) only [go_sem,Nat.reduceEqDiff,Nat.reduceAdd,Nat.reduceSub,Int.reduceAdd,Int.reduceSub,Int.reduceToNat]
    refine⟨qC,aa 400 ?_⟩
    try simp (disch:=omega) only [go_sem,Nat.reduceEqDiff,Nat.reduceAdd,Nat.reduceSub,Int.reduceAdd,Int.reduceSub,Int.reduceToNat]
    refine ah (qC) (tT x hx) [] qM zF (aa 400 ?_)
    simp (disch:=omega) only [go_sem,Nat.reduceEqDiff,Nat.reduceAdd,Nat.reduceSub,Int.reduceAdd,Int.reduceSub,Int.reduceToNat]
    split<;>rename_i he<;>(try simp only [zR] at he)<;>simp (disch:=omega) only [go_sem,Nat.reduceEqDiff,Nat.reduceAdd,Nat.reduceSub,Int.reduceAdd,Int.reduceSub,Int.reduceToNat,he]<;>(try simp only [zQ] at he)<;>try simp (disch:=omega) only [go_sem,Nat.reduceEqDiff,Nat.reduceAdd,Nat.reduceSub,Int.reduceAdd,Int.reduceSub,Int.reduceToNat]
    ·refine ai [] (qC) _ (by simp only [go_sem];rfl) zF zF ?_
     simp (disch:=omega) only [go_sem,Nat.reduceEqDiff,Nat.reduceAdd,Nat.reduceSub,Int.reduceAdd,Int.reduceSub,Int.reduceToNat]
     simp [hal,aD,actParts,aG,cy,aX,cg,actTab,ns,he]
    refine ai [] (qC) _ (by simp only [go_sem];rfl) zF zF ?_
    simp (disch:=omega) only [go_sem,Nat.reduceEqDiff,Nat.reduceAdd,Nat.reduceSub,Int.reduceAdd,Int.reduceSub,Int.reduceToNat]
    simp [hal,aD,actParts,aG,cy,aX,cg,actTab,ns,he]
   |addr s i d b hs=>
    have d1:=bL (kc hs)
    have ns:eg s=true:=ew.2 zO
    have wi:aR i:=hw.2.2.2.2.2.1
    have wd:aR d:=hw.2.2.2.2.2.2.1
    have d2:=bL wi
    have d3:=bL wd
    have d4:=bL (xz b)
    refine ao func8 (by kernel_rfl) rfl fun E hE=>aa 400 ?_
    simp (disch:=omega) only [ntmps8,results8,go_sem,Nat.reduceEqDiff,Nat.reduceAdd,Nat.reduceSub,Int.reduceAdd,Int.reduceSub,Int.reduceToNat]
    refine ak [0,1,2,3,4,6,5,7,8] (by kernel_rfl) (qC) (by kernel_rfl) (ab 400 ?_)
    simp (disch:=omega) only [go_sem,Nat.reduceEqDiff,Nat.reduceAdd,Nat.reduceSub,Int.reduceAdd,Int.reduceSub,Int.reduceToNat]
    refine aj (qC) (hA) [] qM zF zF (ab 400 ?_)
    simp (disch:=omega) only [go_sem,Nat.reduceEqDiff,Nat.reduceAdd,Nat.reduceSub,Int.reduceAdd,Int.reduceSub,Int.reduceToNat]
    refine aj (qC) (hT) [] qM zF zF (ab 400 ?_)
    simp (disch:=omega) only [go_sem,Nat.reduceEqDiff,Nat.reduceAdd,Nat.reduceSub,Int.reduceAdd,Int.reduceSub,Int.reduceToNat]
    refine⟨qC,aa 400 ?_⟩
    try simp (disch:=omega) only [go_sem,Nat.reduceEqDiff,Nat.reduceAdd,Nat.reduceSub,Int.reduceAdd,Int.reduceSub,Int.reduceToNat]
    refine ak [1,2,0,3,4,5] (by kernel_rfl) (qC) (by kernel_rfl) (ab 400 ?_)
    simp (disch:=omega) only [go_sem,Nat.reduceEqDiff,Nat.reduceAdd,Nat.reduceSub,Int.reduceAdd,Int.reduceSub,Int.reduceToNat]
    refine aj (qC) (hW) [] qM zF zF (ab 400 ?_)
    simp (disch:=omega) only [go_sem,Nat.reduceEqDiff,Nat.reduceAdd,Nat.reduceSub,Int.reduceAdd,Int.reduceSub,Int.reduceToNat]
    refine⟨qC,aa 400 ?_⟩
    try simp (disch:=omega) only [go_sem,Nat.reduceEqDiff,Nat.reduceAdd,Nat.reduceSub,Int.reduceAdd,Int.reduceSub,Int.reduceToNat]
    refine ah (qC) (ba s (kc hs)) [] qM zF (aa 400 ?_)
    simp (disch:=omega) only [go_sem,Nat.reduceEqDiff,Nat.reduceAdd,Nat.reduceSub,Int.reduceAdd,Int.reduceSub,Int.reduceToNat]
    refine ah (qC) (fv i) [] qM zF (aa 400 ?_)
    simp (disch:=omega) only [go_sem,Nat.reduceEqDiff,Nat.reduceAdd,Nat.reduceSub,Int.reduceAdd,Int.reduceSub,Int.reduceToNat]
    split<;>rename_i hi<;>(try simp only [zR] at hi)<;>simp (disch:=omega) only [go_sem,Nat.reduceEqDiff,Nat.reduceAdd,Nat.reduceSub,Int.reduceAdd,Int.reduceSub,Int.reduceToNat,hi]<;>(try simp only [zQ] at hi)<;>try simp (disch:=omega) only [go_sem,Nat.reduceEqDiff,Nat.reduceAdd,Nat.reduceSub,Int.reduceAdd,Int.reduceSub,Int.reduceToNat]
    ·refine ah (qC) (fv d) [] qM zF (aa 400 ?_)
     simp (disch:=omega) only [go_sem,Nat.reduceEqDiff,Nat.reduceAdd,Nat.reduceSub,Int.reduceAdd,Int.reduceSub,Int.reduceToNat]
     split<;>rename_i hd<;>(try simp only [zR] at hd)<;>simp (disch:=omega) only [go_sem,Nat.reduceEqDiff,Nat.reduceAdd,Nat.reduceSub,Int.reduceAdd,Int.reduceSub,Int.reduceToNat,hd]<;>(try simp only [zQ] at hd)<;>try simp (disch:=omega) only [go_sem,Nat.reduceEqDiff,Nat.reduceAdd,Nat.reduceSub,Int.reduceAdd,Int.reduceSub,Int.reduceToNat]
     ·refine ai [] (qC) _ (by simp only [go_sem];rfl) zF zF ?_
      simp (disch:=omega) only [go_sem,Nat.reduceEqDiff,Nat.reduceAdd,Nat.reduceSub,Int.reduceAdd,Int.reduceSub,Int.reduceToNat]
      simp [hal,aD,actParts,aG,cy,aX,cg,actTab,ns,hi,hd]
     refine ak (qU [0,5,8,3,14,3,5,3,11,3,17,4]) (by kernel_rfl) (qC) (by kernel_rfl) (ab 400 ?_)
     simp (disch:=omega) only [go_sem,Nat.reduceEqDiff,Nat.reduceAdd,Nat.reduceSub,Int.reduceAdd,Int.reduceSub,Int.reduceToNat]
     refine aj (qC) (ba i wi) [] qM zF zF (ab 400 ?_)
     simp (disch:=omega) only [go_sem,Nat.reduceEqDiff,Nat.reduceAdd,Nat.reduceSub,Int.reduceAdd,Int.reduceSub,Int.reduceToNat]
     refine aj (qC) (ba d wd) [] qM zF zF (ab 400 ?_)
     simp (disch:=omega) only [go_sem,Nat.reduceEqDiff,Nat.reduceAdd,Nat.reduceSub,Int.reduceAdd,Int.reduceSub,Int.reduceToNat]
     refine aj (qC) (pM b) [] qM zF zF (ab 400 ?_)
     simp (disch:=omega) only [go_sem,Nat.reduceEqDiff,Nat.reduceAdd,Nat.reduceSub,Int.reduceAdd,Int.reduceSub,Int.reduceToNat]
     refine aj (qC) (ba (cond b 1 0) (xz b)) [] qM zF zF (ab 400 ?_)
     simp (disch:=omega) only [go_sem,Nat.reduceEqDiff,Nat.reduceAdd,Nat.reduceSub,Int.reduceAdd,Int.reduceSub,Int.reduceToNat]
     refine⟨qC,aa 400 ?_⟩
     try simp (disch:=omega) only [go_sem,Nat.reduceEqDiff,Nat.reduceAdd,Nat.reduceSub,Int.reduceAdd,Int.reduceSub,Int.reduceToNat]
     refine ai [] (qC) _ (by simp only [go_sem];rfl) zF zF ?_
     simp (disch:=omega) only [go_sem,Nat.reduceEqDiff,Nat.reduceAdd,Nat.reduceSub,Int.reduceAdd,Int.reduceSub,Int.reduceToNat]
     simp [hal,aD,actParts,aG,cy,aX,cg,actTab,ns,hi,hd]
    refine ai [] (qC) _ (by simp only [go_sem];rfl) zF zF ?_
    simp (disch:=omega) only [go_sem,Nat.reduceEqDiff,Nat.reduceAdd,Nat.reduceSub,Int.reduceAdd,Int.reduceSub,Int.reduceToNat]
    simp [hal,aD,actParts,aG,cy,aX,cg,actTab,ns,hi]
  have hcmp:cN (cc a).cs a.cs=false:=by rw [ActD.cmp];simpa using ht
  rw [lH (fun h=>ht h.2)]
  generalize cc a=u at*
  simp only [go_sem] at hcmp
  refine ao func8 (by kernel_rfl) rfl fun E hE=>aa 400 ?_
  simp (disch:=omega) only [ntmps8,results8,go_sem,Nat.reduceEqDiff,Nat.reduceAdd,Nat.reduceSub,Int.reduceAdd,Int.reduceSub,Int.reduceToNat]
  refine ak [0,1,2,3,4,6,5,7,8] (by kernel_rfl) (qC) (by kernel_rfl) (ab 400 ?_)
  simp (disch:=omega) only [go_sem,Nat.reduceEqDiff,Nat.reduceAdd,Nat.reduceSub,Int.reduceAdd,Int.reduceSub,Int.reduceToNat]
  refine aj (qC) (hA) [] qM zF zF (ab 400 ?_)
  simp (disch:=omega) only [go_sem,Nat.reduceEqDiff,Nat.reduceAdd,Nat.reduceSub,Int.reduceAdd,Int.reduceSub,Int.reduceToNat]
  refine aj (qC) (hT) [] qM zF zF (ab 400 ?_)
  simp (disch:=omega) only [go_sem,Nat.reduceEqDiff,Nat.reduceAdd,Nat.reduceSub,Int.reduceAdd,Int.reduceSub,Int.reduceToNat]
  refine⟨qC,aa 400 ?_⟩
  try simp (disch:=omega) only [go_sem,Nat.reduceEqDiff,Nat.reduceAdd,Nat.reduceSub,Int.reduceAdd,Int.reduceSub,Int.reduceToNat,hcmp]
  refine ai [] (qC) _ (by simp only [go_sem];rfl) zF zF ?_
  simp (disch:=omega) only [go_sem,Nat.reduceEqDiff,Nat.reduceAdd,Nat.reduceSub,Int.reduceAdd,Int.reduceSub,Int.reduceToNat]
 have hok':bG a=false:=by simpa using hok
 rw [hok'] at hA
 rw [lH (fun h=>hok h.1)]
 refine ao func8 (by kernel_rfl) rfl fun E hE=>aa 400 ?_
 simp (disch:=omega) only [ntmps8,results8,go_sem,Nat.reduceEqDiff,Nat.reduceAdd,Nat.reduceSub,Int.reduceAdd,Int.reduceSub,Int.reduceToNat]
 refine ak [0,1,2,3,4,6,5,7,8] (by kernel_rfl) (qC) (by kernel_rfl) (ab 400 ?_)
 simp (disch:=omega) only [go_sem,Nat.reduceEqDiff,Nat.reduceAdd,Nat.reduceSub,Int.reduceAdd,Int.reduceSub,Int.reduceToNat]
 refine aj (qC) (hA) [] qM zF zF (ab 400 ?_)
 simp (disch:=omega) only [go_sem,Nat.reduceEqDiff,Nat.reduceAdd,Nat.reduceSub,Int.reduceAdd,Int.reduceSub,Int.reduceToNat]
 refine⟨qC,aa 400 ?_⟩
 try simp (disch:=omega) only [go_sem,Nat.reduceEqDiff,Nat.reduceAdd,Nat.reduceSub,Int.reduceAdd,Int.reduceSub,Int.reduceToNat]
 refine ai [] (qC) _ (by simp only [go_sem];rfl) zF zF ?_
 simp (disch:=omega) only [go_sem,Nat.reduceEqDiff,Nat.reduceAdd,Nat.reduceSub,Int.reduceAdd,Int.reduceSub,Int.reduceToNat]
end
end Go.Proofs.YtdiiopjaebnmfaaGreatDoor
