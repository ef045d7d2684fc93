/- Lemmas of this claim. -/
import Derived.Test.YtdiiopjaebnmfaaGreatDoorZFnExactRunScriptE
import Derived.Test.YtdiiopjaebnmfaaGreatDoorZFnExactRunScriptG
set_option maxHeartbeats 16000000
set_option maxRecDepth 100000
set_option linter.unusedVariables false
set_option linter.unusedSimpArgs false
namespace Go.Proofs.YtdiiopjaebnmfaaGreatDoor
open _root_.Go.Proofs.Tryz
open _root_.List renaming getD_cons_zero->zk,map_cons->zG,sum_cons->P6,map_nil->P7,sum_nil->P8,mem_cons->P_
open _root_.Bool renaming and_eq_true->P9
section
def bx (k s:Int):ActD:=⟨k,s,0,0,[],ah,ac⟩
def kindOf (s:List UInt8):Int:=if s=actTab.getD 12 [] then 12 else if s=actTab.getD 11 [] then 11 else if s=actTab.getD 10 [] then 10 else if s=actTab.getD 9 [] then 9 else if s=actTab.getD 8 [] then 8 else if s=actTab.getD 7 [] then 7 else if s=actTab.getD 6 [] then 6 else if s=actTab.getD 5 [] then 5 else if s=actTab.getD 4 [] then 4 else if s=actTab.getD 3 [] then 3 else if s=actTab.getD 2 [] then 2 else if s=actTab.getD 1 [] then 1 else 0
def selA (p:List (List UInt8)):ActD:=
 let k:=kindOf (p.getD 0 [])
 let s:=if 1<=k/\k<=7 then cZ p 1 else 1
 if k=1 then⟨k,s,0,0,(if 2 < p.length then (ee (p.getD 2 [])).1 else []),ah,ac⟩ else
 if k=2 then⟨k,s,0,cZ p 2,[],ah,ac⟩ else
 if k=5 then⟨k,s,0,0,[],⟨cZ p 2,cZ p 3,cZ p 4 == 1,false⟩,ac⟩ else
 if k=6\/k=7 then⟨k,s,cZ p 2,0,[],ah,ac⟩ else
 if k=11 then⟨k,s,0,0,[],ah,(wo (p.getD 1 [])).1⟩ else
 if k=8\/k=9\/k=10\/k=12 then⟨k,s,cZ p 1,0,[],ah,ac⟩ else⟨k,s,0,0,[],ah,ac⟩
def lx (line:List UInt8):ActD×Bool:=
 if (bm line).2=true/\2<=(bm line).1.length/\bM (selA (bm line).1)≠[]/\bM (selA (bm line).1)=bF [32] (bm line).1 then (selA (bm line).1,true) else (bw,false)
def vP (kind:Int) (a:ActD) (l:List Int):ActD×Bool:=
 if (l.length:Int)≠(if kind=1\/kind=3\/kind=4 then 0 else if kind=5 then 3 else 1) then (a,false) else
 if kind=5 then ({ a with addr:=⟨bR l 0,bR l 1,bR l 2 == 1,false⟩},true) else
 if kind=2 then ({ a with many:=bR l 0 },true) else
 if kind=1\/kind=3\/kind=4 then (a,true) else ({ a with pos:=bR l 0 },true)
def mK (kind:Int) (a:ActD):Option (List Int)->ActD×Bool
 |none=>(a,false)
 |some l=>if kind<=7 then (if l.length=0 then (a,false) else vP kind { a with side:=bR l 0 } (l.drop 1)) else vP kind a l
def jw (t:List UInt8):List UInt8×Bool:=if t=[45] then ([],true) else ee t
def rdF (kind:Int) (p:List (List UInt8)):ActD×Bool:=
 if kind=11 then (if p.length≠1 then (bx kind 1,false) else ({ bx kind 1 with letter:=(wo (p.getD 0 [])).1 },(wo (p.getD 0 [])).2)) else
 if kind=1 then (if p.length≠2 then (bx kind 1,false) else
  if (jw (p.getD 1 [])).2=false then ({ bx kind 1 with text:=(jw (p.getD 1 [])).1 },false) else mK kind { bx kind 1 with text:=(jw (p.getD 1 [])).1 } (br (p.take 1))) else
 mK kind (bx kind 1) (br p)
def Ce (parts:List (List UInt8)) (k:Int):Bool:=decide (parts.getD 0 []=actTab.getD k.toNat []) && ((rdF k (parts.drop 1)).2 && l_ (bM (rdF k (parts.drop 1)).1) parts)
def qs (parts:List (List UInt8)):List Int->ActD×Bool
 |[]=>(bw,false)
 |k::r=>if Ce parts k then ((rdF k (parts.drop 1)).1,true) else qs parts r
def Cf:List Int:=[1,2,3,4,5,6,7,8,9,10,11,12]
def gn (line:List UInt8):ActD×Bool:=
 if (bm line).2=false\/(bm line).1.length=0 then (bw,false) else qs (bm line).1 Cf
theorem A5 {a:ActD} (h:actGood a=true):a.kind=1\/a.kind=2\/a.kind=3\/a.kind=4\/a.kind=5\/a.kind=6\/a.kind=7\/a.kind=8\/a.kind=9\/a.kind=10\/a.kind=11\/a.kind=12:=by
 simp only [actGood,dN,bU,P9,decide_eq_true_eq] at h
 omega
inductive ly:ActD->Prop
 |write (s:Int) (t:List UInt8):(1<=s/\s<=2)->t.length<=120->ly ⟨1,s,0,0,t,ah,ac⟩
 |read (s m:Int):(1<=s/\s<=2)->(0<=m/\m<=1000000000)->ly ⟨2,s,0,m,[],ah,ac⟩
 |tick (s:Int):(1<=s/\s<=2)->ly ⟨3,s,0,0,[],ah,ac⟩
 |manage (s:Int):(1<=s/\s<=2)->ly ⟨4,s,0,0,[],ah,ac⟩
 |addr (s i d:Int) (b:Bool):(1<=s/\s<=2)->(0<=i/\i<=1000000000)->(0<=d/\d<=1000000000)->ly ⟨5,s,0,0,[],⟨i,d,b,false⟩,ac⟩
 |drop (s n:Int):(1<=s/\s<=2)->(0<=n/\n<=1000000000)->ly ⟨6,s,n,0,[],ah,ac⟩
 |reset (s n:Int):(1<=s/\s<=2)->(0<=n/\n<=1000000000)->ly ⟨7,s,n,0,[],ah,ac⟩
 |deliver (n:Int):(0<=n/\n<=1000000000)->ly ⟨8,1,n,0,[],ah,ac⟩
 |lose (n:Int):(0<=n/\n<=1000000000)->ly ⟨9,1,n,0,[],ah,ac⟩
 |copy (n:Int):(0<=n/\n<=1000000000)->ly ⟨10,1,n,0,[],ah,ac⟩
 |inject (x:LetterD):cU x=true->ly ⟨11,1,0,0,[],ah,x⟩
 |again (n:Int):(0<=n/\n<=1000000000)->ly ⟨12,1,n,0,[],ah,ac⟩
theorem ks {a:ActD} (h:actGood a=true):ly a:=by
 have hk:=A5 h
 obtain⟨k,s,p,m,t,ad,le⟩:=a
 simp only [actGood,dN,bU,P9,decide_eq_true_eq,e_] at h
 obtain⟨⟨⟨⟨⟨_,hs⟩,hp,hm⟩,ht⟩,htold⟩,hf⟩:=h
 try dsimp only at hk
 simp only [aN,P9] at hf
 obtain⟨_,hf⟩:=hf
 simp only [cq,ActD.mk.injEq] at htold
 obtain⟨_,e1,e2,e3,e4,e5,e6⟩:=htold
 try dsimp only at hs hp hm ht hf e1 e2 e3 e4 e5 e6
 rcases hk with rfl|rfl|rfl|rfl|rfl|rfl|rfl|rfl|rfl|rfl|rfl|rfl<;>simp at e1 e2 e3 e4 e5 e6 hf<;>(try subst e1)<;>(try subst e2)<;>(try subst e3)<;>(try subst e4)<;>(try subst e5)<;>(try subst e6)
 ·exact .write _ _ hs ht
 ·exact .read _ _ hs hm
 ·exact .tick _ hs
 ·exact .manage _ hs
 ·obtain⟨i,d,b,td⟩:=ad
  simp only [AddrD.mk.injEq,true_and] at e5
  subst e5
  simp only [e_] at hf
  exact .addr _ _ _ _ hs hf.1 hf.2
 ·exact .drop _ _ hs hp
 ·exact .reset _ _ hs hp
 ·exact .deliver _ hp
 ·exact .lose _ hp
 ·exact .copy _ hp
 ·exact .inject _ (xr.1 hf)
 exact .again _ hp
theorem IC {t:List UInt8} (h:t.length<=120):pD t≠[]/\∀ b∈pD t,32 < b.toNat/\b.toNat<=126:=by
 rw [pD]
 split
 ·exact⟨zP,by intro b hb;simp at hb;subst hb;decide⟩
 rename_i hne
 refine⟨hne,fun b hb=>?_⟩
 rw [mD,if_pos zO] at hb
 have:=tZ b hb
 omega
theorem c_ {n:Int} (h:0<=n):dp n≠[]/\∀ b∈dp n,32 < b.toNat/\b.toNat<=126:=⟨NK n,fun b hb=>by have:=qq h b hb;omega⟩
theorem uZ {t:List UInt8} (h:t.length<=120):jw (pD t)=(t,true):=by
 rw [pD]
 split
 ·rename_i he
  rw [mD,if_pos zO] at he
  have hl:=fL t
  rw [he] at hl
  have:t=[]:=List.eq_nil_of_length_eq_zero (by simp at hl;omega)
  subst this
  rfl
 rename_i hne
 rw [mD,if_pos zO] at hne⊢
 have hl:=fL t
 rw [jw,if_neg,xp zO]
 intro e
 rw [e] at hl
 simp at hl
 omega
theorem F6 {t:List UInt8} (h:t.length<=120):(ee (pD t)).1=t:=by
 have h1:=uZ h
 rw [jw] at h1
 split at h1
 ·rename_i he
  have:t=[]:=(Prod.mk.inj h1).1.symm
  subst this
  rfl
 rw [h1]
theorem aX {s:List UInt8} {l:List (List UInt8)} (h:s≠[]/\∀ b∈s,32 < b.toNat/\b.toNat<=126) (hl:Clean l):Clean (s::l):=by
 intro x hx
 rcases P_.1 hx with rfl|hx
 ·exact h
 exact hl x hx
theorem eX:Clean []:=fun s hs=>by simp at hs
theorem ID:∀ k:Fin 12,(actTab.getD (k.1+1) []≠[]/\∀ b∈actTab.getD (k.1+1) [],32 < b.toNat/\b.toNat<=126)/\(actTab.getD (k.1+1) []).length<=7/\kindOf (actTab.getD (k.1+1) [])=(k.1:Int)+1:=by decide
theorem fc {n:Int} (h:0<=n/\n<=1000000000):(dp n).length<=10:=by
 rw [dp,if_neg zO]
 have:=rO 9 n.natAbs [] zO
 simpa using this
theorem Kj {t:List UInt8} (h:t.length<=120):(pD t).length<=240:=by
 rw [pD]
 split
 ·simp
 rw [mD,if_pos zO,fL];omega
theorem Kk (b:Bool):0<=(cond b 1 0:Int)/\(cond b 1 0:Int)<=1000000000:=by cases b<;>decide
structure PartsA (a:ActD):Prop where
 clean:Clean (actParts a)
 len:(actParts a).length<=5/\2<=(actParts a).length
 tot:tot (actParts a)<=590
 sel:selA (actParts a)=a
 rd:rdF a.kind ((actParts a).drop 1)=(a,true)
 word:(actParts a).getD 0 []=actTab.getD a.kind.toNat []
 kin:kindOf ((actParts a).getD 0 [])=a.kind
theorem dc {l:List (List UInt8)} {n:Int} {k:Nat} (h:l[k]? =some (dp n)) (hn:0<=n/\n<=1000000000):cZ l k=n:=by
 obtain⟨h1,h2⟩:=List.getElem?_eq_some_iff.1 h
 rw [cZ,dif_pos h1,h2,bG hn]
theorem iI {a:ActD} (h:ly a):PartsA a:=by
 have T:=ID
 have W:∀ {s:Int},(1<=s/\s<=2)->0<=s/\s<=1000000000:=fun h=>by omega
 cases h with
 |write s t hs ht=>
  have e:actParts ⟨1,s,0,0,t,ah,ac⟩=[actTab.getD 1 [],dp s,pD t]:=rfl
  have l1:=fc (W hs)
  have l2:=Kj ht
  refine⟨?_,?_,?_,?_,?_,rfl,(T 0).2.2⟩
  ·rw [e];exact aX (T 0).1 (aX (c_ zO) (aX (IC ht) eX))
  ·rw [e];exact⟨zP,zP⟩
  ·rw [e];have:(actTab.getD 1 []).length<=7:=(T 0).2.1;simp only [tot,zG,P7,P6,P8];omega
  ·rw [e]
   have hk:kindOf (actTab.getD 1 [])=1:=(T 0).2.2
   simp only [selA,zk,hk]
   rw [dc (n:=s) rfl (W hs)]
   simp [F6 ht]
  rw [e]
  simp [rdF,uZ ht,br,bG (W hs),mK,vP,bR,bx]
 |read s m hs hm=>
  have e:actParts ⟨2,s,0,m,[],ah,ac⟩=[actTab.getD 2 [],dp s,dp m]:=rfl
  have l1:=fc (W hs)
  have l2:=fc hm
  refine⟨?_,?_,?_,?_,?_,rfl,(T 1).2.2⟩
  ·rw [e];exact aX (T 1).1 (aX (c_ zO) (aX (c_ zO) eX))
  ·rw [e];exact⟨zP,zP⟩
  ·rw [e];have:(actTab.getD 2 []).length<=7:=(T 1).2.1;simp only [tot,zG,P7,P6,P8];omega
  ·rw [e]
   have hk:kindOf (actTab.getD 2 [])=2:=(T 1).2.2
   simp only [selA,zk,hk]
   rw [dc (n:=s) rfl (W hs),dc (n:=m) rfl hm]
   simp
  rw [e]
  simp [rdF,br,bG (W hs),bG hm,mK,vP,bR,bx]
 |tick s hs=>
  have e:actParts ⟨3,s,0,0,[],ah,ac⟩=[actTab.getD 3 [],dp s]:=rfl
  have l1:=fc (W hs)
  refine⟨?_,?_,?_,?_,?_,rfl,(T 2).2.2⟩
  ·rw [e];exact aX (T 2).1 (aX (c_ zO) eX)
  ·rw [e];exact⟨zP,zP⟩
  ·rw [e];have:(actTab.getD 3 []).length<=7:=(T 2).2.1;simp only [tot,zG,P7,P6,P8];omega
  ·rw [e]
   have hk:kindOf (actTab.getD 3 [])=3:=(T 2).2.2
   simp only [selA,zk,hk]
   rw [dc (n:=s) rfl (W hs)]
   simp
  rw [e]
  simp [rdF,br,bG (W hs),mK,vP,bR,bx]
 |manage s hs=>
  have e:actParts ⟨4,s,0,0,[],ah,ac⟩=[actTab.getD 4 [],dp s]:=rfl
  have l1:=fc (W hs)
  refine⟨?_,?_,?_,?_,?_,rfl,(T 3).2.2⟩
  ·rw [e];exact aX (T 3).1 (aX (c_ zO) eX)
  ·rw [e];exact⟨zP,zP⟩
  ·rw [e];have:(actTab.getD 4 []).length<=7:=(T 3).2.1;simp only [tot,zG,P7,P6,P8];omega
  ·rw [e]
   have hk:kindOf (actTab.getD 4 [])=4:=(T 3).2.2
   simp only [selA,zk,hk]
   rw [dc (n:=s) rfl (W hs)]
   simp
  rw [e]
  simp [rdF,br,bG (W hs),mK,vP,bR,bx]
 |addr s i d b hs hi hd=>
  have e:actParts ⟨5,s,0,0,[],⟨i,d,b,false⟩,ac⟩=[actTab.getD 5 [],dp s,dp i,dp d,dp (cond b 1 0)]:=rfl
  have l1:=fc (W hs)
  have l2:=fc hi
  have l3:=fc hd
  have hb:=Kk b
  have l4:=fc hb
  refine⟨?_,?_,?_,?_,?_,rfl,(T 4).2.2⟩
  ·rw [e];exact aX (T 4).1 (aX (c_ zO) (aX (c_ zO) (aX (c_ zO) (aX (c_ hb.1) eX))))
  ·rw [e];exact⟨zP,zP⟩
  ·rw [e];have:(actTab.getD 5 []).length<=7:=(T 4).2.1;simp only [tot,zG,P7,P6,P8];omega
  ·rw [e]
   have hk:kindOf (actTab.getD 5 [])=5:=(T 4).2.2
   simp only [selA,zk,hk]
   rw [dc (n:=s) rfl (W hs),dc (n:=i) rfl hi,dc (n:=d) rfl hd,dc (n:=cond b 1 0) rfl hb]
   cases b<;>simp
  rw [e]
  cases b<;>simp [rdF,br,bG (W hs),bG hi,bG hd,bG (n:=0) zO,bG (n:=1) zO,mK,vP,bR,bx]
 |inject x hx=>
  have e:actParts ⟨11,1,0,0,[],ah,x⟩=[actTab.getD 11 [],ef x]:=rfl
  have l1:=nZ x
  refine⟨?_,?_,?_,?_,?_,rfl,(T 10).2.2⟩
  ·rw [e];exact aX (T 10).1 (aX ⟨xr.2 hx,Cd hx⟩ eX)
  ·rw [e];exact⟨zP,zP⟩
  ·rw [e];have:(actTab.getD 11 []).length<=7:=(T 10).2.1;simp only [tot,zG,P7,P6,P8];omega
  ·rw [e]
   have hk:kindOf (actTab.getD 11 [])=11:=(T 10).2.2
   simp only [selA,zk,hk]
   simp [n_ hx]
  rw [e]
  simp [rdF,n_ hx,bx]
 |drop s n hs hn=>
  have e:actParts ⟨6,s,n,0,[],ah,ac⟩=[actTab.getD 6 [],dp s,dp n]:=rfl
  have l1:=fc (W hs)
  have l2:=fc hn
  refine⟨?_,?_,?_,?_,?_,rfl,(T (6 - 1)).2.2⟩
  ·rw [e];exact aX (T (6 - 1)).1 (aX (c_ zO) (aX (c_ zO) eX))
  ·rw [e];exact⟨zP,zP⟩
  ·rw [e];have:(actTab.getD 6 []).length<=7:=(T (6 - 1)).2.1;simp only [tot,zG,P7,P6,P8];omega
  ·rw [e]
   have hk:kindOf (actTab.getD 6 [])=6:=(T (6 - 1)).2.2
   simp only [selA,zk,hk]
   rw [dc (n:=s) rfl (W hs),dc (n:=n) rfl hn]
   simp
  rw [e]
  simp [rdF,br,bG (W hs),bG hn,mK,vP,bR,bx]
 |reset s n hs hn=>
  have e:actParts ⟨7,s,n,0,[],ah,ac⟩=[actTab.getD 7 [],dp s,dp n]:=rfl
  have l1:=fc (W hs)
  have l2:=fc hn
  refine⟨?_,?_,?_,?_,?_,rfl,(T (7 - 1)).2.2⟩
  ·rw [e];exact aX (T (7 - 1)).1 (aX (c_ zO) (aX (c_ zO) eX))
  ·rw [e];exact⟨zP,zP⟩
  ·rw [e];have:(actTab.getD 7 []).length<=7:=(T (7 - 1)).2.1;simp only [tot,zG,P7,P6,P8];omega
  ·rw [e]
   have hk:kindOf (actTab.getD 7 [])=7:=(T (7 - 1)).2.2
   simp only [selA,zk,hk]
   rw [dc (n:=s) rfl (W hs),dc (n:=n) rfl hn]
   simp
  rw [e]
  simp [rdF,br,bG (W hs),bG hn,mK,vP,bR,bx]
 |deliver n hn=>
  have e:actParts ⟨8,1,n,0,[],ah,ac⟩=[actTab.getD 8 [],dp n]:=rfl
  have l2:=fc hn
  refine⟨?_,?_,?_,?_,?_,rfl,(T (8 - 1)).2.2⟩
  ·rw [e];exact aX (T (8 - 1)).1 (aX (c_ zO) eX)
  ·rw [e];exact⟨zP,zP⟩
  ·rw [e];have:(actTab.getD 8 []).length<=7:=(T (8 - 1)).2.1;simp only [tot,zG,P7,P6,P8];omega
  ·rw [e]
   have hk:kindOf (actTab.getD 8 [])=8:=(T (8 - 1)).2.2
   simp only [selA,zk,hk]
   rw [dc (n:=n) rfl hn]
   simp
  rw [e]
  simp [rdF,br,bG hn,mK,vP,bR,bx]
 |lose n hn=>
  have e:actParts ⟨9,1,n,0,[],ah,ac⟩=[actTab.getD 9 [],dp n]:=rfl
  have l2:=fc hn
  refine⟨?_,?_,?_,?_,?_,rfl,(T (9 - 1)).2.2⟩
  ·rw [e];exact aX (T (9 - 1)).1 (aX (c_ zO) eX)
  ·rw [e];exact⟨zP,zP⟩
  ·rw [e];have:(actTab.getD 9 []).length<=7:=(T (9 - 1)).2.1;simp only [tot,zG,P7,P6,P8];omega
  ·rw [e]
   have hk:kindOf (actTab.getD 9 [])=9:=(T (9 - 1)).2.2
   simp only [selA,zk,hk]
   rw [dc (n:=n) rfl hn]
   simp
  rw [e]
  simp [rdF,br,bG hn,mK,vP,bR,bx]
 |copy n hn=>
  have e:actParts ⟨10,1,n,0,[],ah,ac⟩=[actTab.getD 10 [],dp n]:=rfl
  have l2:=fc hn
  refine⟨?_,?_,?_,?_,?_,rfl,(T (10 - 1)).2.2⟩
  ·rw [e];exact aX (T (10 - 1)).1 (aX (c_ zO) eX)
  ·rw [e];exact⟨zP,zP⟩
  ·rw [e];have:(actTab.getD 10 []).length<=7:=(T (10 - 1)).2.1;simp only [tot,zG,P7,P6,P8];omega
  ·rw [e]
   have hk:kindOf (actTab.getD 10 [])=10:=(T (10 - 1)).2.2
   simp only [selA,zk,hk]
   rw [dc (n:=n) rfl hn]
   simp
  rw [e]
  simp [rdF,br,bG hn,mK,vP,bR,bx]
 |again n hn=>
  have e:actParts ⟨12,1,n,0,[],ah,ac⟩=[actTab.getD 12 [],dp n]:=rfl
  have l2:=fc hn
  refine⟨?_,?_,?_,?_,?_,rfl,(T (12 - 1)).2.2⟩
  ·rw [e];exact aX (T (12 - 1)).1 (aX (c_ zO) eX)
  ·rw [e];exact⟨zP,zP⟩
  ·rw [e];have:(actTab.getD 12 []).length<=7:=(T (12 - 1)).2.1;simp only [tot,zG,P7,P6,P8];omega
  ·rw [e]
   have hk:kindOf (actTab.getD 12 [])=12:=(T (12 - 1)).2.2
   simp only [selA,zk,hk]
   rw [dc (n:=n) rfl hn]
   simp
  rw [e]
  simp [rdF,br,bG hn,mK,vP,bR,bx]
theorem iW {a:ActD} (h:actGood a=true):bM a=bF [32] (actParts a):=if_pos h
theorem Ed {a:ActD} (h:bM a≠[]):actGood a=true:=by
 rw [bM] at h
 split at h
 ·assumption
 exact absurd rfl h
theorem Kl {s:List UInt8} {r:List (List UInt8)} (h:s≠[]):bF [32] (s::r)≠[]:=by
 rw [xi]
 intro e
 exact h (List.append_eq_nil_iff.1 e).1
theorem xt {a:ActD} (h:actGood a=true):bM a≠[]:=by
 have hp:=(iI (ks h)).clean
 rw [iW h,actParts]
 exact Kl (hp _ (by simp [actParts])).1
theorem F7 {a:ActD} (h:actGood a=true):bm (bM a)=(actParts a,true):=by
 have hp:=iI (ks h)
 have hl:=oW (y:=[32]) (l:=actParts a)
 have h1:=hp.tot
 have h2:=hp.len
 simp only [List.length_singleton,Nat.mul_one] at hl
 rw [iW h,bm,if_neg zO,mH hp.clean,ju,if_neg zO]
def wq (parts:List (List UInt8)):ActD×Bool:=if actGood (selA parts)=true/\actParts (selA parts)=parts then (selA parts,true) else (bw,false)
theorem xu (line:List UInt8):lx line=if (bm line).2=true then wq (bm line).1 else (bw,false):=by
 rw [lx]
 have hc:=iV line
 generalize bm line=q at hc
 obtain⟨p,ok⟩:=q
 dsimp only at hc⊢
 cases ok with
 |false=>simp
 |true=>
  simp only [true_and,if_true,wq]
  by_cases hg:actGood (selA p)=true
  ·have hp:=iI (ks hg)
   by_cases he:actParts (selA p)=p
   ·have h2:2<=p.length:=by
     have:=hp.len.2
     rw [he] at this
     exact this
    rw [if_pos ⟨h2,xt hg,by rw [iW hg,he]⟩,if_pos ⟨hg,he⟩]
   rw [if_neg,if_neg (fun h=>he h.2)]
   rintro⟨_,_,h⟩
   rw [iW hg] at h
   exact he (rS hp.clean hc h)
  rw [if_neg,if_neg (fun h=>hg h.1)]
  rintro⟨_,h,_⟩
  exact hg (Ed h)
theorem xv {a:ActD} {parts:List (List UInt8)} (hc:Clean parts):l_ (bM a) parts=(actGood a && decide (actParts a=parts)):=by
 cases hg:actGood a with
 |false=>
  have:bM a=[]:=if_neg (by simp [hg])
  rw [this]
  simp [l_]
 |true=>
  have hp:=iI (ks hg)
  have hne:=xt hg
  rw [l_,F7 hg]
  by_cases he:actParts a=parts
  ·subst he;simp [hne]
  have:bF [32] (actParts a)≠bF [32] parts:=fun h=>he (rS hp.clean hc h)
  simp [this,he]
theorem u7 {parts:List (List UInt8)}:∀ {l:List Int},(∀ k∈l,Ce parts k=false)->qs parts l=(bw,false)
 |[],_=>rfl
 |k::r,h=>by rw [qs,if_neg (by simp [h k zP]),u7 fun x hx=>h x (by simp [hx])]
theorem t6 {parts:List (List UInt8)} {k:Int} (hc:Clean parts) (hk:Ce parts k=true):actGood (selA parts)=true/\actParts (selA parts)=parts/\(rdF k (parts.drop 1)).1=selA parts:=by
 simp only [Ce,xv hc,P9,decide_eq_true_eq] at hk
 obtain⟨_,_,hg,he⟩:=hk
 have hp:=iI (ks hg)
 have hs:=hp.sel
 rw [he] at hs
 rw [hs]
 exact⟨hg,he,rfl⟩
theorem A6 {parts:List (List UInt8)} (hc:Clean parts) (hg:actGood (selA parts)=true) (he:actParts (selA parts)=parts):∀ {l:List Int},(selA parts).kind∈l->qs parts l=(selA parts,true)
 |[],h=>by simp at h
 |k::r,h=>by
  have hp:=iI (ks hg)
  rw [qs]
  by_cases ht:Ce parts k=true
  ·rw [if_pos ht,(t6 hc ht).2.2]
  rw [if_neg ht]
  refine A6 hc hg he ?_
  rcases P_.1 h with rfl|h
  ·exfalso
   apply ht
   have h1:=hp.rd
   have h2:=hp.word
   rw [he] at h1 h2
   simp only [Ce,xv hc,h1,hg,he,h2,decide_true,Bool.and_self]
  exact h
theorem xw (line:List UInt8):gn line=lx line:=by
 rw [xu,gn]
 have hc:=iV line
 generalize bm line=q at hc
 obtain⟨p,ok⟩:=q
 dsimp only at hc⊢
 cases ok with
 |false=>simp
 |true=>
  simp only [Bool.true_eq_false,false_or,if_true,wq]
  by_cases hg:actGood (selA p)=true/\actParts (selA p)=p
  ·have hp:=iI (ks hg.1)
   have hl:=hp.len
   rw [hg.2] at hl
   rw [if_pos hg,if_neg zO,A6 hc hg.1 hg.2]
   have:=A5 hg.1
   simp only [Cf,P_,List.not_mem_nil,or_false]
   exact this
  rw [if_neg hg]
  split
  ·rfl
  refine u7 fun k _=>?_
  cases ht:Ce p k with
  |false=>rfl
  |true=>exact absurd ⟨(t6 hc ht).1,(t6 hc ht).2.1⟩ hg
end
section
open Go.RowKit
theorem fm (w:WorldD) (l:List LetterD) (hw:SmallW w) (hl:l.length<=1048576):aP 178 [.ag (w.cs 0),.sc (.int .i64 1),.sc (.sl 21 0 l.length)]
  (w.hp false++[some ⟨l.map LetterD.cs,19,36,false,true⟩]) (.ag ((ay 1 w l).cs 22)) (w.hp false++([some ⟨l.map LetterD.cs,19,36,false,true⟩]++(ay 1 w l).hp true)):=by
 obtain⟨R,hR⟩:∃ R,R=ay 1 w l:=⟨_,rfl⟩
 rw [<-hR]
 have hl2:l.length<=9223372036854775807:=zO
 have hC:=kB w hw
 refine aV func178 zXk rfl fun E hE=>ab 400 ?_
 simp (disch:=omega) only [ntmps178,results178,go_sem,seval]
 refine ai (qC) (hC) (qI 0 21) qM zF (ab 400 ?_)
 simp (disch:=omega) only [go_sem,seval]
 refine gV 22 hE (fun s (y:Nat×WorldD)=>s.at (qU [0,1,8,105]) [(7,.sc (.int .i64 (y.1:Nat)))] (((s.hp.take 24).set 22 (some ⟨[(eq y.2 24 25 26 27 28 29 30 31 32 33 34 35 36 37 38 39 40 41 42 43 44)],61,60,true,false⟩))++(fw w true++(fy y.2 true)))) (fun (y:Nat×WorldD)=>y.1<=l.length/\y.2.a=w.a/\y.2.b=w.b/\SmallP2 y.2/\R=ay 1 y.2 (l.drop y.1)) (fun (y:Nat×WorldD)=>l.length - y.1) (0,w) (qI 0 45) (qC) (⟨Nat.zero_le _,rfl,rfl,hw.rest,hR⟩) (ae zF zF ?_) fun y hy N hN=>?_
 ·try simp (disch:=omega) only [go_sem,seval]
 obtain⟨i,u⟩:=y
 obtain⟨hi,ha,hb,hS,hu⟩:=hy
 obtain⟨ua,ub,bag,past,wA,wB,rA,rB,known,nums,nsA,nsB⟩:=u
 obtain⟨keys,tags⟩:=known
 dsimp only at hi ha hb hu
 subst ha hb
 have s1:=hS.bag
 have s2:=hS.past
 have s3:=hS.keys
 have s4:=hS.tags
 have s5:=hS.nums
 have s6:=hS.ansA
 have s7:=hS.ansB
 dsimp only at s1 s2 s3 s4 s5 s6 s7
 refine eO 1006 400 ?_
 try simp (disch:=omega) only [go_sem,seval]
 split<;>rename_i h<;>(try simp only [decide_eq_true_eq,decide_eq_false_iff_not,Int.ofNat_lt] at h)
 rotate_left
 ·have e:i=l.length:=zO
  subst e
  rw [oY (Nat.le_refl _)] at hu
  subst hu
  try simp (disch:=omega) only [go_sem,seval]
  refine aO (qI 0 22++qI 24 21) (qC) _ zXg zF zF ?_
  simp (disch:=omega) only [go_sem,seval]
 rw [mX h] at hu
 generalize hx:l[i]=x at hu
 have hget:=aC (enc:=LetterD.cs) h
 rw [hx] at hget
 try simp (disch:=omega) only [go_sem,seval,hget]
 obtain⟨p1,hp1⟩:∃ p,p=oD past x:=⟨_,rfl⟩
 refine fE 22 hE (fun s=>s.at (qU [9,14,25,14]) [] (((s.hp.take 24).set 22 (some ⟨[(eq (⟨w.a,w.b,bag,p1,wA,wB,rA,rB,⟨keys,tags⟩,nums,nsA,nsB⟩:WorldD) 24 25 26 27 28 29 30 31 32 33 34 35 36 37 38 39 40 41 42 43 44)],61,60,true,false⟩))++(fw w true++(fy (⟨w.a,w.b,bag,p1,wA,wB,rA,rB,⟨keys,tags⟩,nums,nsA,nsB⟩:WorldD) true++[some ⟨[x.cs],19,36,true,false⟩])))) (qC) zF (fun N hN=>ab 401 ?_) (eO 1008 400 ?_)
 ·try simp (disch:=omega) only [go_sem,seval]
  split<;>rename_i b1<;>(try simp only [zR] at b1)<;>simp (disch:=omega) only [go_sem,seval,b1]<;>(try simp only [zQ] at b1)<;>try simp (disch:=omega) only [go_sem,seval]
  ·rw [wv zO] at hp1
   subst hp1
   try simp (disch:=omega) only [go_sem,seval]
   refine⟨qC,hN _ (qI 0 39++qI 47 1++qI 40 6) (ae zF zF ?_)⟩
   simp (disch:=omega) only [go_sem,seval]
   try simp [LetterD.cs]
  rw [ww zO] at hp1
  subst hp1
  try simp (disch:=omega) only [go_sem,seval]
  refine⟨qC,hN _ (qI 0 46) (ae zF zF ?_)⟩
  simp (disch:=omega) only [go_sem,seval]
 try simp (disch:=omega) only [go_sem,seval]
 obtain⟨q1,hq1⟩:∃ q,q=q8 nsA (pF 1 1 x) w.a.now:=⟨_,rfl⟩
 refine fE 22 hE (fun s=>s.at (qU [9,14,25,35]) [] (((s.hp.take 24).set 22 (some ⟨[(eq (⟨w.a,w.b,bag,p1,wA,wB,rA,rB,⟨keys,tags⟩,nums,q1,nsB⟩:WorldD) 24 25 26 27 28 29 30 31 32 33 34 35 36 37 38 39 40 41 42 43 44)],61,60,true,false⟩))++(fw w true++(fy (⟨w.a,w.b,bag,p1,wA,wB,rA,rB,⟨keys,tags⟩,nums,q1,nsB⟩:WorldD) true++[some ⟨[x.cs],19,36,true,false⟩])))) (qC) zF (fun N hN=>ab 401 ?_) (eO 1010 400 ?_)
 ·try simp (disch:=omega) only [go_sem,seval]
  split<;>rename_i b2<;>(try simp only [zR] at b2)<;>simp (disch:=omega) only [go_sem,seval,b2]<;>(try simp only [zQ] at b2)<;>try simp (disch:=omega) only [go_sem,seval]
  ·rw [CN b2] at hq1
   split<;>rename_i b3<;>(try simp only [zR] at b3)<;>simp (disch:=omega) only [go_sem,seval,b3]<;>(try simp only [zQ] at b3)<;>try simp (disch:=omega) only [go_sem,seval]
   ·rw [CI zO] at hq1
    subst hq1
    try simp (disch:=omega) only [go_sem,seval]
    refine⟨qC,hN _ (qI 0 43++qI 47 1++qI 44 2) (ae zF zF ?_)⟩
    simp (disch:=omega) only [go_sem,seval]
    try simp [bh]
   rw [CJ zO] at hq1
   subst hq1
   try simp (disch:=omega) only [go_sem,seval]
   refine⟨qC,hN _ (qI 0 46) (ae zF zF ?_)⟩
   simp (disch:=omega) only [go_sem,seval]
  rw [CK b2,lF] at hq1
  subst hq1
  try simp (disch:=omega) only [go_sem,seval]
  refine⟨qC,hN _ (qI 0 46) (ae zF zF ?_)⟩
  simp (disch:=omega) only [go_sem,seval]
 try simp (disch:=omega) only [go_sem,seval]
 refine fE 22 hE (fun s=>s.at (qU [9,14,25,56]) [] (((s.hp.take 24).set 22 (some ⟨[(eq (⟨w.a,w.b,bag,p1,wA,wB,rA,rB,⟨keys,tags⟩,nums,q1,nsB⟩:WorldD) 24 25 26 27 28 29 30 31 32 33 34 35 36 37 38 39 40 41 42 43 44)],61,60,true,false⟩))++(fw w true++(fy (⟨w.a,w.b,bag,p1,wA,wB,rA,rB,⟨keys,tags⟩,nums,q1,nsB⟩:WorldD) true++[some ⟨[x.cs],19,36,true,false⟩])))) (qC) zF (fun N hN=>ab 401 ?_) (ab 400 ?_)
 ·try simp (disch:=omega) only [go_sem,seval]
  split<;>rename_i b6<;>(try simp only [zR] at b6)<;>simp (disch:=omega) only [go_sem,seval,b6]<;>(try simp only [zQ] at b6)<;>try simp (disch:=omega) only [go_sem,seval]
  ·try simp (disch:=omega) only [go_sem,seval]
   refine⟨qC,hN _ (qI 0 46) (ae zF zF ?_)⟩
   simp (disch:=omega) only [go_sem,seval]
  try simp (disch:=omega) only [go_sem,seval]
  refine⟨qC,hN _ (qI 0 46) (ae zF zF ?_)⟩
  simp (disch:=omega) only [go_sem,seval]
 try simp (disch:=omega) only [go_sem,seval]
 refine ai (qC) (ff x.to) [] qM zF (ab 400 ?_)
 simp (disch:=omega) only [go_sem,seval]
 have hoth:q8 nsB (pF 1 2 x) w.b.now=nsB:=by rw [CM zD,lF]
 split<;>rename_i b4<;>(try simp only [zR] at b4)<;>simp (disch:=omega) only [go_sem,seval,b4]<;>(try simp only [zQ] at b4)<;>try simp (disch:=omega) only [go_sem,seval]
 ·have hK:=ye ⟨keys,tags⟩ x.tag (by dsimp only;omega) (by dsimp only;omega)
  have hky:(fM ⟨keys,tags⟩ x.tag).keys.length<=1048576:=by rw [k_];exact s3
  have hkt:(fM ⟨keys,tags⟩ x.tag).tags.length<=1048576:=oE s4
  obtain⟨kk,hkk⟩:∃ k,k=fM ⟨keys,tags⟩ x.tag:=⟨_,rfl⟩
  rw [<-hkk] at hK hky hkt
  obtain⟨k1,t1⟩:=kk
  dsimp only at hky hkt
  have t5a:(eJ nums x.nonce).length<=1048576:=fV s5
  have t5b:(eJ (eJ nums x.nonce) x.give).length<=1048576:=fV t5a
  have hh1:=gf (⟨w.a,w.b,bag,p1,wA,wB,rA,rB,⟨k1,t1⟩,nums,q1,nsB⟩:WorldD) x.nonce (by dsimp only;omega)
  have hh2:=gf (⟨w.a,w.b,bag,p1,wA,wB,rA,rB,⟨k1,t1⟩,(eJ nums x.nonce),q1,nsB⟩:WorldD) x.give (by dsimp only;omega)
  have hh3:=gf (⟨w.a,w.b,bag,p1,wA,wB,rA,rB,⟨k1,t1⟩,(eJ (eJ nums x.nonce) x.give),q1,nsB⟩:WorldD) x.sgn (by dsimp only;omega)
  dsimp only at hh1 hh2 hh3
  have e:dS 1 (⟨w.a,w.b,bag,past,wA,wB,rA,rB,⟨keys,tags⟩,nums,nsA,nsB⟩:WorldD) x=(⟨w.a,w.b,bag,p1,wA,wB,rA,rB,⟨k1,t1⟩,(eJ (eJ (eJ nums x.nonce) x.give) x.sgn),q1,nsB⟩:WorldD):=by
   rw [dS,if_pos b4,vq,mj]
   dsimp only
   rw [<-hkk,hoth,<-hp1,<-hq1]
  rw [e] at hu
  have hS1:=fh (side:=1) (x:=x) hS
  rw [e] at hS1
  generalize eJ nums x.nonce=m1 at*
  generalize eJ m1 x.give=m2 at*
  generalize eJ m2 x.sgn=m3 at*
  try simp (disch:=omega) only [go_sem,seval]
  refine ai (qC) (hK) (qI 40 2) qM zF (ab 400 ?_)
  simp (disch:=omega) only [go_sem,seval]
  refine ai (qC) (hh1) (qI 24 16++qI 46 2++qI 42 3) qM zF (ab 400 ?_)
  simp (disch:=omega) only [go_sem,seval]
  refine ai (qC) (hh2) (qI 24 16++qI 46 3++qI 43 2) qM zF (ab 400 ?_)
  simp (disch:=omega) only [go_sem,seval]
  refine ai (qC) (hh3) (qI 24 16++qI 46 2++qI 49 1++qI 43 2) qM zF (ab 400 ?_)
  simp (disch:=omega) only [go_sem,seval]
  refine⟨qC,hN _ (i+1,(⟨w.a,w.b,bag,p1,wA,wB,rA,rB,⟨k1,t1⟩,m3,q1,nsB⟩:WorldD)) (qI 0 40++qI 46 2++qI 50 1++qI 43 2) (by (try dsimp only);exact⟨zO,rfl,rfl,hS1,hu⟩) (by (try dsimp only);omega) (ae zF zF ?_)⟩
  try simp (disch:=omega) only [go_sem,seval]
 obtain⟨g1,hg1⟩:∃ g,g=yf bag x:=⟨_,rfl⟩
 have e:dS 1 (⟨w.a,w.b,bag,past,wA,wB,rA,rB,⟨keys,tags⟩,nums,nsA,nsB⟩:WorldD) x=(⟨w.a,w.b,g1,p1,wA,wB,rA,rB,⟨keys,tags⟩,nums,q1,nsB⟩:WorldD):=by
  rw [dS,if_neg b4,mj]
  dsimp only
  rw [hoth,<-hp1,<-hq1,<-hg1]
 rw [e] at hu
 have hS1:=fh (side:=1) (x:=x) hS
 rw [e] at hS1
 try simp (disch:=omega) only [go_sem,seval]
 split<;>rename_i b5<;>(try simp only [zR] at b5)<;>simp (disch:=omega) only [go_sem,seval,b5]<;>(try simp only [zQ] at b5)<;>try simp (disch:=omega) only [go_sem,seval]
 ·rw [CG zO] at hg1
  subst hg1
  try simp (disch:=omega) only [go_sem,seval]
  refine⟨qC,hN _ (i+1,(⟨w.a,w.b,(bag++[x]),p1,wA,wB,rA,rB,⟨keys,tags⟩,nums,q1,nsB⟩:WorldD)) (qI 0 38++qI 47 1++qI 39 6) (by (try dsimp only);exact⟨zO,rfl,rfl,hS1,hu⟩) (by (try dsimp only);omega) (ae zF zF ?_)⟩
  try simp (disch:=omega) only [go_sem,seval]
  try simp [LetterD.cs]
 rw [CH zO] at hg1
 subst hg1
 try simp (disch:=omega) only [go_sem,seval]
 refine⟨qC,hN _ (i+1,(⟨w.a,w.b,g1,p1,wA,wB,rA,rB,⟨keys,tags⟩,nums,q1,nsB⟩:WorldD)) (qI 0 45) (by (try dsimp only);exact⟨zO,rfl,rfl,hS1,hu⟩) (by (try dsimp only);omega) (ae zF zF ?_)⟩
 try simp (disch:=omega) only [go_sem,seval]
theorem fq (w:WorldD) (l:List LetterD) (hw:SmallW w) (hl:l.length<=1048576):aP 178 [.ag (w.cs 0),.sc (.int .i64 2),.sc (.sl 21 0 l.length)]
  (w.hp false++[some ⟨l.map LetterD.cs,19,36,false,true⟩]) (.ag ((ay 2 w l).cs 22)) (w.hp false++([some ⟨l.map LetterD.cs,19,36,false,true⟩]++(ay 2 w l).hp true)):=by
 obtain⟨R,hR⟩:∃ R,R=ay 2 w l:=⟨_,rfl⟩
 rw [<-hR]
 have hl2:l.length<=9223372036854775807:=zO
 have hC:=kB w hw
 refine aV func178 zXk rfl fun E hE=>ab 400 ?_
 simp (disch:=omega) only [ntmps178,results178,go_sem,seval]
 refine ai (qC) (hC) (qI 0 21) qM zF (ab 400 ?_)
 simp (disch:=omega) only [go_sem,seval]
 refine gV 22 hE (fun s (y:Nat×WorldD)=>s.at (qU [0,1,8,105]) [(7,.sc (.int .i64 (y.1:Nat)))] (((s.hp.take 24).set 22 (some ⟨[(eq y.2 24 25 26 27 28 29 30 31 32 33 34 35 36 37 38 39 40 41 42 43 44)],61,60,true,false⟩))++(fw w true++(fy y.2 true)))) (fun (y:Nat×WorldD)=>y.1<=l.length/\y.2.a=w.a/\y.2.b=w.b/\SmallP2 y.2/\R=ay 2 y.2 (l.drop y.1)) (fun (y:Nat×WorldD)=>l.length - y.1) (0,w) (qI 0 45) (qC) (⟨Nat.zero_le _,rfl,rfl,hw.rest,hR⟩) (ae zF zF ?_) fun y hy N hN=>?_
 ·try simp (disch:=omega) only [go_sem,seval]
 obtain⟨i,u⟩:=y
 obtain⟨hi,ha,hb,hS,hu⟩:=hy
 obtain⟨ua,ub,bag,past,wA,wB,rA,rB,known,nums,nsA,nsB⟩:=u
 obtain⟨keys,tags⟩:=known
 dsimp only at hi ha hb hu
 subst ha hb
 have s1:=hS.bag
 have s2:=hS.past
 have s3:=hS.keys
 have s4:=hS.tags
 have s5:=hS.nums
 have s6:=hS.ansA
 have s7:=hS.ansB
 dsimp only at s1 s2 s3 s4 s5 s6 s7
 refine eO 1006 400 ?_
 try simp (disch:=omega) only [go_sem,seval]
 split<;>rename_i h<;>(try simp only [decide_eq_true_eq,decide_eq_false_iff_not,Int.ofNat_lt] at h)
 rotate_left
 ·have e:i=l.length:=zO
  subst e
  rw [oY (Nat.le_refl _)] at hu
  subst hu
  try simp (disch:=omega) only [go_sem,seval]
  refine aO (qI 0 22++qI 24 21) (qC) _ zXg zF zF ?_
  simp (disch:=omega) only [go_sem,seval]
 rw [mX h] at hu
 generalize hx:l[i]=x at hu
 have hget:=aC (enc:=LetterD.cs) h
 rw [hx] at hget
 try simp (disch:=omega) only [go_sem,seval,hget]
 obtain⟨p1,hp1⟩:∃ p,p=oD past x:=⟨_,rfl⟩
 refine fE 22 hE (fun s=>s.at (qU [9,14,25,14]) [] (((s.hp.take 24).set 22 (some ⟨[(eq (⟨w.a,w.b,bag,p1,wA,wB,rA,rB,⟨keys,tags⟩,nums,nsA,nsB⟩:WorldD) 24 25 26 27 28 29 30 31 32 33 34 35 36 37 38 39 40 41 42 43 44)],61,60,true,false⟩))++(fw w true++(fy (⟨w.a,w.b,bag,p1,wA,wB,rA,rB,⟨keys,tags⟩,nums,nsA,nsB⟩:WorldD) true++[some ⟨[x.cs],19,36,true,false⟩])))) (qC) zF (fun N hN=>ab 401 ?_) (eO 1008 400 ?_)
 ·try simp (disch:=omega) only [go_sem,seval]
  split<;>rename_i b1<;>(try simp only [zR] at b1)<;>simp (disch:=omega) only [go_sem,seval,b1]<;>(try simp only [zQ] at b1)<;>try simp (disch:=omega) only [go_sem,seval]
  ·rw [wv zO] at hp1
   subst hp1
   try simp (disch:=omega) only [go_sem,seval]
   refine⟨qC,hN _ (qI 0 39++qI 47 1++qI 40 6) (ae zF zF ?_)⟩
   simp (disch:=omega) only [go_sem,seval]
   try simp [LetterD.cs]
  rw [ww zO] at hp1
  subst hp1
  try simp (disch:=omega) only [go_sem,seval]
  refine⟨qC,hN _ (qI 0 46) (ae zF zF ?_)⟩
  simp (disch:=omega) only [go_sem,seval]
 try simp (disch:=omega) only [go_sem,seval]
 obtain⟨q1,hq1⟩:∃ q,q=q8 nsB (pF 2 2 x) w.b.now:=⟨_,rfl⟩
 refine fE 22 hE (fun s=>s.at (qU [9,14,25,35]) [] (((s.hp.take 24).set 22 (some ⟨[(eq (⟨w.a,w.b,bag,p1,wA,wB,rA,rB,⟨keys,tags⟩,nums,nsA,nsB⟩:WorldD) 24 25 26 27 28 29 30 31 32 33 34 35 36 37 38 39 40 41 42 43 44)],61,60,true,false⟩))++(fw w true++(fy (⟨w.a,w.b,bag,p1,wA,wB,rA,rB,⟨keys,tags⟩,nums,nsA,nsB⟩:WorldD) true++[some ⟨[x.cs],19,36,true,false⟩])))) (qC) zF (fun N hN=>ab 401 ?_) (eO 1010 400 ?_)
 ·try simp (disch:=omega) only [go_sem,seval]
  split<;>rename_i b6<;>(try simp only [zR] at b6)<;>simp (disch:=omega) only [go_sem,seval,b6]<;>(try simp only [zQ] at b6)<;>try simp (disch:=omega) only [go_sem,seval]
  ·try simp (disch:=omega) only [go_sem,seval]
   refine⟨qC,hN _ (qI 0 46) (ae zF zF ?_)⟩
   simp (disch:=omega) only [go_sem,seval]
  try simp (disch:=omega) only [go_sem,seval]
  refine⟨qC,hN _ (qI 0 46) (ae zF zF ?_)⟩
  simp (disch:=omega) only [go_sem,seval]
 try simp (disch:=omega) only [go_sem,seval]
 refine fE 22 hE (fun s=>s.at (qU [9,14,25,56]) [] (((s.hp.take 24).set 22 (some ⟨[(eq (⟨w.a,w.b,bag,p1,wA,wB,rA,rB,⟨keys,tags⟩,nums,nsA,q1⟩:WorldD) 24 25 26 27 28 29 30 31 32 33 34 35 36 37 38 39 40 41 42 43 44)],61,60,true,false⟩))++(fw w true++(fy (⟨w.a,w.b,bag,p1,wA,wB,rA,rB,⟨keys,tags⟩,nums,nsA,q1⟩:WorldD) true++[some ⟨[x.cs],19,36,true,false⟩])))) (qC) zF (fun N hN=>ab 401 ?_) (ab 400 ?_)
 ·try simp (disch:=omega) only [go_sem,seval]
  split<;>rename_i b2<;>(try simp only [zR] at b2)<;>simp (disch:=omega) only [go_sem,seval,b2]<;>(try simp only [zQ] at b2)<;>try simp (disch:=omega) only [go_sem,seval]
  ·rw [CN b2] at hq1
   split<;>rename_i b3<;>(try simp only [zR] at b3)<;>simp (disch:=omega) only [go_sem,seval,b3]<;>(try simp only [zQ] at b3)<;>try simp (disch:=omega) only [go_sem,seval]
   ·rw [CI zO] at hq1
    subst hq1
    try simp (disch:=omega) only [go_sem,seval]
    refine⟨qC,hN _ (qI 0 44++qI 47 1++qI 45 1) (ae zF zF ?_)⟩
    simp (disch:=omega) only [go_sem,seval]
    try simp [bh]
   rw [CJ zO] at hq1
   subst hq1
   try simp (disch:=omega) only [go_sem,seval]
   refine⟨qC,hN _ (qI 0 46) (ae zF zF ?_)⟩
   simp (disch:=omega) only [go_sem,seval]
  rw [CK b2,lF] at hq1
  subst hq1
  try simp (disch:=omega) only [go_sem,seval]
  refine⟨qC,hN _ (qI 0 46) (ae zF zF ?_)⟩
  simp (disch:=omega) only [go_sem,seval]
 try simp (disch:=omega) only [go_sem,seval]
 refine ai (qC) (ff x.to) [] qM zF (ab 400 ?_)
 simp (disch:=omega) only [go_sem,seval]
 have hoth:q8 nsA (pF 2 1 x) w.a.now=nsA:=by rw [CM zD,lF]
 split<;>rename_i b4<;>(try simp only [zR] at b4)<;>simp (disch:=omega) only [go_sem,seval,b4]<;>(try simp only [zQ] at b4)<;>try simp (disch:=omega) only [go_sem,seval]
 ·have hK:=ye ⟨keys,tags⟩ x.tag (by dsimp only;omega) (by dsimp only;omega)
  have hky:(fM ⟨keys,tags⟩ x.tag).keys.length<=1048576:=by rw [k_];exact s3
  have hkt:(fM ⟨keys,tags⟩ x.tag).tags.length<=1048576:=oE s4
  obtain⟨kk,hkk⟩:∃ k,k=fM ⟨keys,tags⟩ x.tag:=⟨_,rfl⟩
  rw [<-hkk] at hK hky hkt
  obtain⟨k1,t1⟩:=kk
  dsimp only at hky hkt
  have t5a:(eJ nums x.nonce).length<=1048576:=fV s5
  have t5b:(eJ (eJ nums x.nonce) x.give).length<=1048576:=fV t5a
  have hh1:=gf (⟨w.a,w.b,bag,p1,wA,wB,rA,rB,⟨k1,t1⟩,nums,nsA,q1⟩:WorldD) x.nonce (by dsimp only;omega)
  have hh2:=gf (⟨w.a,w.b,bag,p1,wA,wB,rA,rB,⟨k1,t1⟩,(eJ nums x.nonce),nsA,q1⟩:WorldD) x.give (by dsimp only;omega)
  have hh3:=gf (⟨w.a,w.b,bag,p1,wA,wB,rA,rB,⟨k1,t1⟩,(eJ (eJ nums x.nonce) x.give),nsA,q1⟩:WorldD) x.sgn (by dsimp only;omega)
  dsimp only at hh1 hh2 hh3
  have e:dS 2 (⟨w.a,w.b,bag,past,wA,wB,rA,rB,⟨keys,tags⟩,nums,nsA,nsB⟩:WorldD) x=(⟨w.a,w.b,bag,p1,wA,wB,rA,rB,⟨k1,t1⟩,(eJ (eJ (eJ nums x.nonce) x.give) x.sgn),nsA,q1⟩:WorldD):=by
   rw [dS,if_pos b4,vq,mj]
   dsimp only
   rw [<-hkk,hoth,<-hp1,<-hq1]
  rw [e] at hu
  have hS1:=fh (side:=2) (x:=x) hS
  rw [e] at hS1
  generalize eJ nums x.nonce=m1 at*
  generalize eJ m1 x.give=m2 at*
  generalize eJ m2 x.sgn=m3 at*
  try simp (disch:=omega) only [go_sem,seval]
  refine ai (qC) (hK) (qI 40 2) qM zF (ab 400 ?_)
  simp (disch:=omega) only [go_sem,seval]
  refine ai (qC) (hh1) (qI 24 16++qI 46 2++qI 42 3) qM zF (ab 400 ?_)
  simp (disch:=omega) only [go_sem,seval]
  refine ai (qC) (hh2) (qI 24 16++qI 46 3++qI 43 2) qM zF (ab 400 ?_)
  simp (disch:=omega) only [go_sem,seval]
  refine ai (qC) (hh3) (qI 24 16++qI 46 2++qI 49 1++qI 43 2) qM zF (ab 400 ?_)
  simp (disch:=omega) only [go_sem,seval]
  refine⟨qC,hN _ (i+1,(⟨w.a,w.b,bag,p1,wA,wB,rA,rB,⟨k1,t1⟩,m3,nsA,q1⟩:WorldD)) (qI 0 40++qI 46 2++qI 50 1++qI 43 2) (by (try dsimp only);exact⟨zO,rfl,rfl,hS1,hu⟩) (by (try dsimp only);omega) (ae zF zF ?_)⟩
  try simp (disch:=omega) only [go_sem,seval]
 obtain⟨g1,hg1⟩:∃ g,g=yf bag x:=⟨_,rfl⟩
 have e:dS 2 (⟨w.a,w.b,bag,past,wA,wB,rA,rB,⟨keys,tags⟩,nums,nsA,nsB⟩:WorldD) x=(⟨w.a,w.b,g1,p1,wA,wB,rA,rB,⟨keys,tags⟩,nums,nsA,q1⟩:WorldD):=by
  rw [dS,if_neg b4,mj]
  dsimp only
  rw [hoth,<-hp1,<-hq1,<-hg1]
 rw [e] at hu
 have hS1:=fh (side:=2) (x:=x) hS
 rw [e] at hS1
 try simp (disch:=omega) only [go_sem,seval]
 split<;>rename_i b5<;>(try simp only [zR] at b5)<;>simp (disch:=omega) only [go_sem,seval,b5]<;>(try simp only [zQ] at b5)<;>try simp (disch:=omega) only [go_sem,seval]
 ·rw [CG zO] at hg1
  subst hg1
  try simp (disch:=omega) only [go_sem,seval]
  refine⟨qC,hN _ (i+1,(⟨w.a,w.b,(bag++[x]),p1,wA,wB,rA,rB,⟨keys,tags⟩,nums,nsA,q1⟩:WorldD)) (qI 0 38++qI 47 1++qI 39 6) (by (try dsimp only);exact⟨zO,rfl,rfl,hS1,hu⟩) (by (try dsimp only);omega) (ae zF zF ?_)⟩
  try simp (disch:=omega) only [go_sem,seval]
  try simp [LetterD.cs]
 rw [CH zO] at hg1
 subst hg1
 try simp (disch:=omega) only [go_sem,seval]
 refine⟨qC,hN _ (i+1,(⟨w.a,w.b,g1,p1,wA,wB,rA,rB,⟨keys,tags⟩,nums,nsA,q1⟩:WorldD)) (qI 0 45) (by (try dsimp only);exact⟨zO,rfl,rfl,hS1,hu⟩) (by (try dsimp only);omega) (ae zF zF ?_)⟩
 try simp (disch:=omega) only [go_sem,seval]
theorem Je {a:ActD} (h:dN a=true):0<=a.pos:=by
 simp only [dN,fv,bU,P9,decide_eq_true_eq] at h
 omega
end
end Go.Proofs.YtdiiopjaebnmfaaGreatDoor
