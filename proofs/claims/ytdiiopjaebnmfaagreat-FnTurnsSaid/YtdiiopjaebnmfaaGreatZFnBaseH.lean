/- Lemmas of this claim. -/
import Derived.Test.YtdiiopjaebnmfaaGreatZFnBaseD
set_option maxHeartbeats 16000000
set_option maxRecDepth 100000
set_option linter.unusedVariables false
set_option linter.unusedSimpArgs false
namespace Go.Proofs.YtdiiopjaebnmfaaGreat
open _root_.Go.Proofs.Tryz
section
open Go.RowKit
theorem sO (e:EndD) (x:LetterD) (hs:Small e):aP 142 [.ag (e.cs 0),.ag x.cs] (e.hp false) (.tu [.ag ((bI e x).1.cs 7),.sc (.sl 14 0 (bI e x).2.length)])
  (e.hp false++((bI e x).1.hp true++[some ⟨(bI e x).2.map LetterD.cs,19,134,true,true⟩])):=by
 have hC:=(qH (ar e))
 have hK:=(qH (aH e))
 have hA:=c_ e.own x.id (by have:=hs.own;omega)
 have hS:=fv e x hs
 have hbA:=ir e.own x.id
 have hbd:=gW e x
 have hf:=qt (e:=e) (x:=x)
 have ht:=fun (n:Nat)=> @qu e x n
 have hok:=fw.eq_1 e x
 generalize bI e x=R at*
 refine qE func142 ntmps142 results142 fun E hE=>?_
 refine qK (hC) (qI 0 7) ?_
 refine qK (hA) (qI 0 1) ?_
 rcases hbA with hi|⟨hi0,hi1⟩
 ·rw [hi]
  refine qX ?_
  refine qD [0,1,2,3,4,5,6,7,8,9,10,11,12,13,14,15,16,17,18] ?_
  refine cj (hS) (qI 0 7) ?_
  rcases hbd with hon|⟨n,hon,hk,hn,hq1,hq2⟩
  ·rw [hon]
   refine qX ?_
   rw [hf (tO hi)]
   refine qG ?_
   exact qF (qI 0 7++qI 10 7++qI 18 1)
  rw [hon]
  refine qX ?_
  rw [hf (tO hi)]
  refine qG ?_
  exact qF (qI 0 7++qI 10 7++qI 18 1)
 obtain⟨i,hi⟩:=Int.eq_ofNat_of_zero_le hi0
 have hil:i < e.own.length:=zO
 rw [hi]
 refine qX ?_
 refine qD [0,1,2,3,4,5,6,7,8,9,10,11,12,13,14,15,16,17,18] ?_
 refine cj (hS) (qI 0 7) ?_
 rcases hbd with hon|⟨n,hon,hk,hn,hq1,hq2⟩
 ·rw [hon]
  refine qX ?_
  rw [hf (by rw [nj hi hil];have:=hon;simp;omega)]
  refine qG ?_
  exact qF (qI 0 7++qI 10 7++qI 18 1)
 rw [hon]
 refine qX ?_
 refine qG ?_
 refine qB (fun h5=>?_) fun h5=>?_
 ·rw [ht _ (by rw [nj hi hil];simp [hon,h5]) hi hil]
  refine qX ?_
  refine qP (qI 0 7++qI 10 7++qI 18 1) ?_
  first|exact⟨⟩|simp [List.map_set,AddrD.cs]
 rw [hf (by rw [nj hi hil];simp [h5])]
 refine qX ?_
 exact qF (qI 0 7++qI 10 7++qI 18 1)
theorem sP (e:EndD) (x:LetterD) (hs:Small e):aP 143 [.ag (e.cs 0),.ag x.cs] (e.hp false) (.tu [.ag ((bJ e x).1.cs 7),.sc (.sl 14 0 (bJ e x).2.length)])
  (e.hp false++((bJ e x).1.hp true++[some ⟨(bJ e x).2.map LetterD.cs,19,134,true,true⟩])):=by
 have hC:=(qH (ar e))
 have hK:=(qH (aH e))
 have hA:=c_ e.far x.id (by have:=hs.far;omega)
 have hD:=sL e.far x.id (by have:=hs.far;omega)
 have hS:=fv e x hs
 have hbA:=ir e.far x.id
 have hbd:=gW e x
 have hf:=zx (e:=e) (x:=x)
 have ht:=fun (n:Nat)=> @zy e x n
 have hok:=nk.eq_1 e x
 have hpl:=ma e.over x.id
 generalize bJ e x=R at*
 refine qE func143 ntmps143 results143 fun E hE=>?_
 refine qK (hC) (qI 0 7) ?_
 refine qK (hA) (qI 1 1) ?_
 rcases hbA with hi|⟨hi0,hi1⟩
 ·rw [hi]
  refine qX ?_
  refine qK (hS) (qI 0 7) ?_
  rcases hbd with hon|⟨n,hon,hk,hn,hq1,hq2⟩
  ·rw [hon]
   refine qX ?_
   rw [hf (by rw [hok];have:=hon;simp;omega)]
   refine qX ?_
   exact qF (qI 0 7++qI 10 7++qI 18 1)
  rw [hon]
  refine qX ?_
  rw [hf (by rw [hok];simp [hi])]
  refine qX ?_
  exact qF (qI 0 7++qI 10 7++qI 18 1)
 obtain⟨i,hi⟩:=Int.eq_ofNat_of_zero_le hi0
 have hil:i < e.far.length:=zO
 rw [hi]
 refine qX ?_
 refine qK (hS) (qI 0 7) ?_
 rcases hbd with hon|⟨n,hon,hk,hn,hq1,hq2⟩
 ·rw [hon]
  refine qX ?_
  rw [hf (by rw [hok];have:=hon;simp;omega)]
  refine qX ?_
  exact qF (qI 0 7++qI 10 7++qI 18 1)
 rw [hon]
 refine qX ?_
 rw [ht _ (by rw [hok];simp [hon,hi]) hi hil]
 have hdl:(bA e.far x.id).1.length<=e.far.length:=by rw [qq hi];simp;omega
 refine qX ?_
 refine qK (xj e.over x.id (by have:=zz hq1;omega)) (qI 6 1) ?_
 refine qK (hD) (qI 1 1) ?_
 refine iK 7 hE (fun s (k:Nat)=>s.at (qU [0,2,3,1,9,58]) [(8,.sc (.int .i64 (k:Nat)))] (s.hp.set 12 (some ⟨(eH e.far[i].addr e.subs k).map SubD.cs,10,58,true,true⟩))) (fun (k:Nat)=>k<=e.subs.length) (fun (k:Nat)=>e.subs.length - k) 0 (qI 0 20) (qC) (Nat.zero_le _) (bM zF zF ?_) fun k hk N hN=>?_
 ·refine qX ?_
  rw [zw]
 refine af 400 ?_
 have hsb:=hs.subs
 have hgl:(eH e.far[i].addr e.subs k).length=e.subs.length:=Cn
 refine qX ?_
 refine qB (fun h=>?_) fun h=>?_
 ·have hg:∀ p:k < (eH e.far[i].addr e.subs k).length,(eH e.far[i].addr e.subs k)[k]'p=e.subs[k]:=by
   intro p
   have hq:=Ez (a:=e.far[i].addr) h
   rw [List.getElem?_eq_getElem p] at hq
   exact Option.some.inj hq
  try simp (disch:=omega) only [go_sem,seval,hg]
  refine qD [0,1,2,3,4,5,6,7,8,9,10,11,12,13] ?_
  refine⟨qC,af 400 ?_⟩
  try simp (disch:=omega) only [go_sem,seval,hg]
  refine qB (fun h9=>?_) fun h9=>?_
  ·refine qX ?_
   refine⟨qC,hN _ (k+1) (qI 0 20) (by (try dsimp only);exact by omega) (by (try dsimp only);omega) (bM zF zF ?_)⟩
   refine qX ?_
   rw [<-Cp h,List.map_set]
   simp [je,h9,hg,SubD.cs]
  refine qX ?_
  refine⟨qC,hN _ (k+1) (qI 0 20) (by (try dsimp only);exact by omega) (by (try dsimp only);omega) (bM zF zF ?_)⟩
  refine qX ?_
  rw [zu h h9]
 have hkl:k=e.subs.length:=zO
 subst hkl
 rw [Cq]
 refine qX ?_
 exact qF (qI 0 7++qI 10 1++qI 19 1++qI 12 4++qI 18 1++qI 20 1)
end
end Go.Proofs.YtdiiopjaebnmfaaGreat
