/-
  Texts merged for this claim by shake.py: what its proof needs.
-/
import Derived.Tactics
import Derived.Below
import Derived.Laws.AppendOwn
import Derived.Laws.OwnMore
import Derived.Laws.Slices
import Derived.Laws.Small
import Derived.Laws.Strings
import Derived.KernelRfl
import Derived.Laws.MakeOwn
import Derived.Laws.BytesString
import Derived.Laws.BytesArg
import Derived.Laws.Build
import Derived.Laws.Concat
import Derived.Laws.StructEq
import Derived.Lib.ConvBytes
import Derived.Orders
import Derived.WalkKit
import Derived.ProofKit
import Derived.ShutString
import Derived.OpenShut
import Derived.ChangeOld
import Derived.Carry
import Derived.Test.YtbgakfbnkkfbkaaGreatChecked
import Derived.Laws.BitsLemmas
import Derived.JoinedOf
import Derived.Test.YtbgakfbnkkfbkaaGreatRows
import Derived.Test.YtbgakfbnkkfbkaaGreatZFnExactDoneC
set_option maxHeartbeats 16000000
set_option maxRecDepth 100000
set_option linter.unusedVariables false
set_option linter.unusedSimpArgs false
namespace Go.Proofs.YtbgakfbnkkfbkaaGreat
section
open Go.RowKit
theorem ti (e:EndD) (x:LetterD) (hs:Small e):ae Tryz.prog 305 [.ag (e.cs 0),.ag x.cs] (e.hp false) (.tu [.ag ((ck e x).1.cs 7),.sc (.sl 14 0 (ck e x).2.length)])
  (e.hp false++((ck e x).1.hp true++[some ⟨(ck e x).2.map LetterD.cs,19,91,true,true⟩])):=by
 have hC:=(qH (aK e))
 have hK:=(qH (bf e))
 have hA:=d4 e.own x.id (by have:=hs.own;omega)
 have hS:=ee e x (by have:=hs.subs;omega)
 have hL:=bt x
 have hbs:=eG e x
 have hbA:=dv e.own x.id
 have hbd:=fV e x
 have hf:=rd (e:=e) (x:=x)
 have ht:=fun (n:Nat)=> @re e x n
 have hok:=jI.eq_1 e x
 generalize ck e x=R at*
 refine qE Tryz.func305 Tryz.ntmps305 Tryz.results305 fun E hE=>?_
 refine qK (hC) (qI 0 7) ?_
 refine qK (hA) (qI 0 1) ?_
 rcases hbA with hi|⟨hi0,hi1⟩
 ·rw [hi]
  refine qX ?_
  rcases hbs with hk|⟨hk0,hk1⟩
  ·refine qD [0,1,2,3,4,5,6,7,8,9,10,11,12,13,14,15,16,17,18,19,20,21,22,23,24,25,26] ?_
   refine az (hK) (qI 0 7) ?_
   refine qB (fun h1=>?_) fun h1=>?_
   ·refine az (hL) [] ?_
    refine qB (fun h2=>?_) fun h2=>?_
    ·refine az (hS) (qI 0 7) ?_
     rw [hk]
     refine qX ?_
     rw [hf (fK hi)]
     refine qG ?_
     exact qF (qI 0 7++qI 10 7++qO 1)
    rw [hf (fK hi)]
    refine qG ?_
    exact qF (qI 0 7++qI 10 7++qO 1)
   rw [hf (fK hi)]
   refine qG ?_
   exact qF (qI 0 7++qI 10 7++qO 1)
  obtain⟨n,hk⟩:=Int.eq_ofNat_of_zero_le hk0
  have hn:n < e.subs.length:=by omega
  refine qD [0,1,2,3,4,5,6,7,8,9,10,11,12,13,14,15,16,17,18,19,20,21,22,23,24,25,26] ?_
  refine az (hK) (qI 0 7) ?_
  refine qB (fun h1=>?_) fun h1=>?_
  ·refine az (hL) [] ?_
   refine qB (fun h2=>?_) fun h2=>?_
   ·refine az (hS) (qI 0 7) ?_
    rw [hk]
    refine qX ?_
    have hon:=kq h1 h2 hk
    rw [hf (fK hi)]
    refine qG ?_
    exact qF (qI 0 7++qI 10 7++qO 1)
   rw [hf (fK hi)]
   refine qG ?_
   exact qF (qI 0 7++qI 10 7++qO 1)
  rw [hf (fK hi)]
  refine qG ?_
  exact qF (qI 0 7++qI 10 7++qO 1)
 obtain⟨i,hi⟩:=Int.eq_ofNat_of_zero_le hi0
 have hil:i < e.own.length:=by omega
 rw [hi]
 refine qX ?_
 rcases hbs with hk|⟨hk0,hk1⟩
 ·refine qD [0,1,2,3,4,5,6,7,8,9,10,11,12,13,14,15,16,17,18,19,20,21,22,23,24,25,26] ?_
  refine az (hK) (qI 0 7) ?_
  refine qB (fun h1=>?_) fun h1=>?_
  ·refine az (hL) [] ?_
   refine qB (fun h2=>?_) fun h2=>?_
   ·refine az (hS) (qI 0 7) ?_
    rw [hk]
    refine qX ?_
    rw [hf (by rw [ef hi hil];have:=cb (e:=e) (x:=x) (by rintro⟨_,_,hh⟩;omega);simp;omega)]
    refine qG ?_
    exact qF (qI 0 7++qI 10 7++qO 1)
   rw [hf (by rw [ef hi hil];have:=cb (e:=e) (x:=x) (by rintro⟨_,hh,_⟩;rw [h2] at hh;cases hh);simp;omega)]
   refine qG ?_
   exact qF (qI 0 7++qI 10 7++qO 1)
  rw [hf (by rw [ef hi hil];have:=cb (e:=e) (x:=x) (by rintro⟨hh,_⟩;rw [h1] at hh;cases hh);simp;omega)]
  refine qG ?_
  exact qF (qI 0 7++qI 10 7++qO 1)
 obtain⟨n,hk⟩:=Int.eq_ofNat_of_zero_le hk0
 have hn:n < e.subs.length:=by omega
 refine qD [0,1,2,3,4,5,6,7,8,9,10,11,12,13,14,15,16,17,18,19,20,21,22,23,24,25,26] ?_
 refine az (hK) (qI 0 7) ?_
 refine qB (fun h1=>?_) fun h1=>?_
 ·refine az (hL) [] ?_
  refine qB (fun h2=>?_) fun h2=>?_
  ·refine az (hS) (qI 0 7) ?_
   rw [hk]
   refine qX ?_
   have hon:=kq h1 h2 hk
   refine qG ?_
   refine qB (fun h5=>?_) fun h5=>?_
   ·rw [ht _ (by rw [ef hi hil];simp [hon,h5]) hi hil]
    refine qX ?_
    refine ah (qI 0 7++qI 10 7++qO 1) (qC) _ (by simp only [go_sem];rfl) (by rfl) (by rfl) ?_
    simp (disch:=omega) only [go_sem,seval]
    try simp [List.map_set,AddrD.cs]
   rw [hf (by rw [ef hi hil];simp [h5])]
   refine qX ?_
   exact qF (qI 0 7++qI 10 7++qO 1)
  rw [hf (by rw [ef hi hil];have:=cb (e:=e) (x:=x) (by rintro⟨_,hh,_⟩;rw [h2] at hh;cases hh);simp;omega)]
  refine qG ?_
  exact qF (qI 0 7++qI 10 7++qO 1)
 rw [hf (by rw [ef hi hil];have:=cb (e:=e) (x:=x) (by rintro⟨hh,_⟩;rw [h1] at hh;cases hh);simp;omega)]
 refine qG ?_
 exact qF (qI 0 7++qI 10 7++qO 1)
theorem tj (e:EndD) (x:LetterD) (hs:Small e):ae Tryz.prog 306 [.ag (e.cs 0),.ag x.cs] (e.hp false) (.tu [.ag ((cm e x).1.cs 7),.sc (.sl 14 0 (cm e x).2.length)])
  (e.hp false++((cm e x).1.hp true++[some ⟨(cm e x).2.map LetterD.cs,19,91,true,true⟩])):=by
 have hC:=(qH (aK e))
 have hK:=(qH (bf e))
 have hA:=d4 e.far x.id (by have:=hs.far;omega)
 have hD:=lE e.far x.id (by have:=hs.far;omega)
 have hS:=ee e x (by have:=hs.subs;omega)
 have hL:=bt x
 have hbs:=eG e x
 have hbA:=dv e.far x.id
 have hbd:=fV e x
 have hf:=rh (e:=e) (x:=x)
 have ht:=fun (n:Nat)=> @ri e x n
 have hok:=nS.eq_1 e x
 have hpl:=ky e.over x.id
 generalize cm e x=R at*
 refine qE Tryz.func306 Tryz.ntmps306 Tryz.results306 fun E hE=>?_
 refine qK (hC) (qI 0 7) ?_
 refine qK (hA) (qI 1 1) ?_
 rcases hbA with hi|⟨hi0,hi1⟩
 ·rw [hi]
  refine qX ?_
  rcases hbs with hk|⟨hk0,hk1⟩
  ·refine qK (hK) (qI 0 7) ?_
   refine qB (fun h1=>?_) fun h1=>?_
   ·refine qK (hL) [] ?_
    refine qB (fun h2=>?_) fun h2=>?_
    ·refine qK (hS) (qI 0 7) ?_
     rw [hk]
     refine qX ?_
     rw [hf (by rw [hok];have:=cb (e:=e) (x:=x) (by rintro⟨_,_,hh⟩;omega);simp;omega)]
     refine qX ?_
     exact qF (qI 0 7++qI 10 7++qO 1)
    rw [hf (by rw [hok];have:=cb (e:=e) (x:=x) (by rintro⟨_,hh,_⟩;rw [h2] at hh;cases hh);simp;omega)]
    refine qX ?_
    exact qF (qI 0 7++qI 10 7++qO 1)
   rw [hf (by rw [hok];have:=cb (e:=e) (x:=x) (by rintro⟨hh,_⟩;rw [h1] at hh;cases hh);simp;omega)]
   refine qX ?_
   exact qF (qI 0 7++qI 10 7++qO 1)
  obtain⟨n,hk⟩:=Int.eq_ofNat_of_zero_le hk0
  have hn:n < e.subs.length:=by omega
  refine qK (hK) (qI 0 7) ?_
  refine qB (fun h1=>?_) fun h1=>?_
  ·refine qK (hL) [] ?_
   refine qB (fun h2=>?_) fun h2=>?_
   ·refine qK (hS) (qI 0 7) ?_
    rw [hk]
    refine qX ?_
    have hon:=kq h1 h2 hk
    have hq1:=h1
    rw [hf (by rw [hok];simp [hi])]
    refine qX ?_
    exact qF (qI 0 7++qI 10 7++qO 1)
   rw [hf (by rw [hok];have:=cb (e:=e) (x:=x) (by rintro⟨_,hh,_⟩;rw [h2] at hh;cases hh);simp;omega)]
   refine qX ?_
   exact qF (qI 0 7++qI 10 7++qO 1)
  rw [hf (by rw [hok];have:=cb (e:=e) (x:=x) (by rintro⟨hh,_⟩;rw [h1] at hh;cases hh);simp;omega)]
  refine qX ?_
  exact qF (qI 0 7++qI 10 7++qO 1)
 obtain⟨i,hi⟩:=Int.eq_ofNat_of_zero_le hi0
 have hil:i < e.far.length:=by omega
 rw [hi]
 refine qX ?_
 rcases hbs with hk|⟨hk0,hk1⟩
 ·refine qK (hK) (qI 0 7) ?_
  refine qB (fun h1=>?_) fun h1=>?_
  ·refine qK (hL) [] ?_
   refine qB (fun h2=>?_) fun h2=>?_
   ·refine qK (hS) (qI 0 7) ?_
    rw [hk]
    refine qX ?_
    rw [hf (by rw [hok];have:=cb (e:=e) (x:=x) (by rintro⟨_,_,hh⟩;omega);simp;omega)]
    refine qX ?_
    exact qF (qI 0 7++qI 10 7++qO 1)
   rw [hf (by rw [hok];have:=cb (e:=e) (x:=x) (by rintro⟨_,hh,_⟩;rw [h2] at hh;cases hh);simp;omega)]
   refine qX ?_
   exact qF (qI 0 7++qI 10 7++qO 1)
  rw [hf (by rw [hok];have:=cb (e:=e) (x:=x) (by rintro⟨hh,_⟩;rw [h1] at hh;cases hh);simp;omega)]
  refine qX ?_
  exact qF (qI 0 7++qI 10 7++qO 1)
 obtain⟨n,hk⟩:=Int.eq_ofNat_of_zero_le hk0
 have hn:n < e.subs.length:=by omega
 refine qK (hK) (qI 0 7) ?_
 refine qB (fun h1=>?_) fun h1=>?_
 ·refine qK (hL) [] ?_
  refine qB (fun h2=>?_) fun h2=>?_
  ·refine qK (hS) (qI 0 7) ?_
   rw [hk]
   refine qX ?_
   have hon:=kq h1 h2 hk
   have hq1:=h1
   rw [ht _ (by rw [hok];simp [hon,hi]) hi hil]
   have hdl:(bz e.far x.id).1.length≤e.far.length:=by rw [gt hi];simp;omega
   refine qX ?_
   refine qK (hD) (qI 1 1) ?_
   refine qK (xH e.over x.id (by have:=rk hq1;omega)) (qI 6 1) ?_
   refine an 7 hE (fun s (k:Nat)=>s.at (qU [0,4,7,1,9,50,61,17]) [(60,.sc (.int .i64 (k:Nat)))] (s.hp.set 12 (some ⟨(es e.far[i].addr e.subs k).map SubD.cs,10,201,true,true⟩))) (fun (k:Nat)=>k≤e.subs.length) (fun (k:Nat)=>e.subs.length - k) 0 (qI 0 20) (qC) (Nat.zero_le _) (af (by rfl) (by rfl) ?_) fun k hk N hN=>?_
   ·refine qX ?_
    rw [rg]
   refine ac 400 ?_
   have hsb:=hs.subs
   have hgl:(es e.far[i].addr e.subs k).length=e.subs.length:=uu
   refine qX ?_
   refine qB (fun h=>?_) fun h=>?_
   ·have hg:∀ p:k < (es e.far[i].addr e.subs k).length,(es e.far[i].addr e.subs k)[k]'p=e.subs[k]:=by
     intro p
     have hq:=xI (a:=e.far[i].addr) h
     rw [List.getElem?_eq_getElem p] at hq
     exact Option.some.inj hq
    try simp (disch:=omega) only [go_sem,seval,hg]
    refine qB (fun h9=>?_) fun h9=>?_
    ·refine qX ?_
     refine⟨qC,hN _ (k+1) (qI 0 20) (by (try dsimp only);exact by omega) (by (try dsimp only);omega) (af (by rfl) (by rfl) ?_)⟩
     refine qX ?_
     rw [←uv h,List.map_set]
     simp [lG,h9,hg,SubD.cs]
    refine qX ?_
    refine⟨qC,hN _ (k+1) (qI 0 20) (by (try dsimp only);exact by omega) (by (try dsimp only);omega) (af (by rfl) (by rfl) ?_)⟩
    refine qX ?_
    rw [rf h h9]
   have hkl:k=e.subs.length:=by omega
   subst hkl
   rw [uw]
   refine qX ?_
   exact qF (qI 0 7++qI 10 1++qI 18 1++qI 12 4++qI 19 1++qO 1)
  rw [hf (by rw [hok];have:=cb (e:=e) (x:=x) (by rintro⟨_,hh,_⟩;rw [h2] at hh;cases hh);simp;omega)]
  refine qX ?_
  exact qF (qI 0 7++qI 10 7++qO 1)
 rw [hf (by rw [hok];have:=cb (e:=e) (x:=x) (by rintro⟨hh,_⟩;rw [h1] at hh;cases hh);simp;omega)]
 refine qX ?_
 exact qF (qI 0 7++qI 10 7++qO 1)
theorem tn (e:EndD) (x:LetterD) (hs:Small e):ae Tryz.prog 288 [.ag (e.cs 0),.ag x.cs] (e.hp false) (.tu [.ag ((ck e x).1.cs 7),.sc (.sl 14 0 (ck e x).2.length)])
  (e.hp false++((ck e x).1.hp true++[some ⟨(ck e x).2.map LetterD.cs,19,91,true,true⟩])):=by
 have hC:=(qH (aD e))
 have hK:=(qH (be e))
 have hA:=dh e.own x.id (by have:=hs.own;omega)
 have hS:=gr e x hs
 have hbA:=dv e.own x.id
 have hbd:=fV e x
 have hf:=rd (e:=e) (x:=x)
 have ht:=fun (n:Nat)=> @re e x n
 have hok:=jI.eq_1 e x
 generalize ck e x=R at*
 refine qE Tryz.func288 Tryz.ntmps288 Tryz.results288 fun E hE=>?_
 refine qK (hC) (qI 0 7) ?_
 refine qK (hA) (qI 0 1) ?_
 rcases hbA with hi|⟨hi0,hi1⟩
 ·rw [hi]
  refine qX ?_
  refine qD [0,1,2,3,4,5,6,7,8,9,10,11,12,13,14,15,16,17,18] ?_
  refine az (hS) (qI 0 7) ?_
  rcases hbd with hon|⟨n,hon,hk,hn,hq1,hq2⟩
  ·rw [hon]
   refine qX ?_
   rw [hf (fK hi)]
   refine qG ?_
   exact qF (qI 0 7++qI 10 7++qI 18 1)
  rw [hon]
  refine qX ?_
  rw [hf (fK hi)]
  refine qG ?_
  exact qF (qI 0 7++qI 10 7++qI 18 1)
 obtain⟨i,hi⟩:=Int.eq_ofNat_of_zero_le hi0
 have hil:i < e.own.length:=by omega
 rw [hi]
 refine qX ?_
 refine qD [0,1,2,3,4,5,6,7,8,9,10,11,12,13,14,15,16,17,18] ?_
 refine az (hS) (qI 0 7) ?_
 rcases hbd with hon|⟨n,hon,hk,hn,hq1,hq2⟩
 ·rw [hon]
  refine qX ?_
  rw [hf (by rw [ef hi hil];have:=hon;simp;omega)]
  refine qG ?_
  exact qF (qI 0 7++qI 10 7++qI 18 1)
 rw [hon]
 refine qX ?_
 refine qG ?_
 refine qB (fun h5=>?_) fun h5=>?_
 ·rw [ht _ (by rw [ef hi hil];simp [hon,h5]) hi hil]
  refine qX ?_
  refine ah (qI 0 7++qI 10 7++qI 18 1) (qC) _ (by simp only [go_sem];rfl) (by rfl) (by rfl) ?_
  simp (disch:=omega) only [go_sem,seval]
  try simp [List.map_set,AddrD.cs]
 rw [hf (by rw [ef hi hil];simp [h5])]
 refine qX ?_
 exact qF (qI 0 7++qI 10 7++qI 18 1)
theorem tp (e:EndD) (x:LetterD) (hs:Small e):ae Tryz.prog 289 [.ag (e.cs 0),.ag x.cs] (e.hp false) (.tu [.ag ((cm e x).1.cs 7),.sc (.sl 14 0 (cm e x).2.length)])
  (e.hp false++((cm e x).1.hp true++[some ⟨(cm e x).2.map LetterD.cs,19,91,true,true⟩])):=by
 have hC:=(qH (aD e))
 have hK:=(qH (be e))
 have hA:=dh e.far x.id (by have:=hs.far;omega)
 have hD:=lF e.far x.id (by have:=hs.far;omega)
 have hS:=gr e x hs
 have hbA:=dv e.far x.id
 have hbd:=fV e x
 have hf:=rh (e:=e) (x:=x)
 have ht:=fun (n:Nat)=> @ri e x n
 have hok:=nS.eq_1 e x
 have hpl:=ky e.over x.id
 generalize cm e x=R at*
 refine qE Tryz.func289 Tryz.ntmps289 Tryz.results289 fun E hE=>?_
 refine qK (hC) (qI 0 7) ?_
 refine qK (hA) (qI 1 1) ?_
 rcases hbA with hi|⟨hi0,hi1⟩
 ·rw [hi]
  refine qX ?_
  refine qK (hS) (qI 0 7) ?_
  rcases hbd with hon|⟨n,hon,hk,hn,hq1,hq2⟩
  ·rw [hon]
   refine qX ?_
   rw [hf (by rw [hok];have:=hon;simp;omega)]
   refine qX ?_
   exact qF (qI 0 7++qI 10 7++qI 18 1)
  rw [hon]
  refine qX ?_
  rw [hf (by rw [hok];simp [hi])]
  refine qX ?_
  exact qF (qI 0 7++qI 10 7++qI 18 1)
 obtain⟨i,hi⟩:=Int.eq_ofNat_of_zero_le hi0
 have hil:i < e.far.length:=by omega
 rw [hi]
 refine qX ?_
 refine qK (hS) (qI 0 7) ?_
 rcases hbd with hon|⟨n,hon,hk,hn,hq1,hq2⟩
 ·rw [hon]
  refine qX ?_
  rw [hf (by rw [hok];have:=hon;simp;omega)]
  refine qX ?_
  exact qF (qI 0 7++qI 10 7++qI 18 1)
 rw [hon]
 refine qX ?_
 rw [ht _ (by rw [hok];simp [hon,hi]) hi hil]
 have hdl:(bz e.far x.id).1.length≤e.far.length:=by rw [gt hi];simp;omega
 refine qX ?_
 refine qK (oN e.over x.id (by have:=rk hq1;omega)) (qI 6 1) ?_
 refine qK (hD) (qI 1 1) ?_
 refine an 7 hE (fun s (k:Nat)=>s.at (qU [0,2,3,1,9,58]) [(8,.sc (.int .i64 (k:Nat)))] (s.hp.set 12 (some ⟨(es e.far[i].addr e.subs k).map SubD.cs,10,201,true,true⟩))) (fun (k:Nat)=>k≤e.subs.length) (fun (k:Nat)=>e.subs.length - k) 0 (qI 0 20) (qC) (Nat.zero_le _) (af (by rfl) (by rfl) ?_) fun k hk N hN=>?_
 ·refine qX ?_
  rw [rg]
 refine ac 400 ?_
 have hsb:=hs.subs
 have hgl:(es e.far[i].addr e.subs k).length=e.subs.length:=uu
 refine qX ?_
 refine qB (fun h=>?_) fun h=>?_
 ·have hg:∀ p:k < (es e.far[i].addr e.subs k).length,(es e.far[i].addr e.subs k)[k]'p=e.subs[k]:=by
   intro p
   have hq:=xI (a:=e.far[i].addr) h
   rw [List.getElem?_eq_getElem p] at hq
   exact Option.some.inj hq
  try simp (disch:=omega) only [go_sem,seval,hg]
  refine qD [0,1,2,3,4,5,6,7,8,9,10,11,12,13] ?_
  refine⟨qC,ac 400 ?_⟩
  try simp (disch:=omega) only [go_sem,seval,hg]
  refine qB (fun h9=>?_) fun h9=>?_
  ·refine qX ?_
   refine⟨qC,hN _ (k+1) (qI 0 20) (by (try dsimp only);exact by omega) (by (try dsimp only);omega) (af (by rfl) (by rfl) ?_)⟩
   refine qX ?_
   rw [←uv h,List.map_set]
   simp [lG,h9,hg,SubD.cs]
  refine qX ?_
  refine⟨qC,hN _ (k+1) (qI 0 20) (by (try dsimp only);exact by omega) (by (try dsimp only);omega) (af (by rfl) (by rfl) ?_)⟩
  refine qX ?_
  rw [rf h h9]
 have hkl:k=e.subs.length:=by omega
 subst hkl
 rw [uw]
 refine qX ?_
 exact qF (qI 0 7++qI 10 1++qI 19 1++qI 12 4++qI 18 1++qI 20 1)
end
section
open Go.RowKit
def rl:List PieceD→Nat
 |[]=>0
 |x::r=>x.text.length+rl r
theorem zZ {M:Nat}:∀ {l:List PieceD},(∀ x∈l,x.text.length≤M)→rl l≤l.length*M
 |[],_=>by simp [rl]
 |x::r,h=>by
  have h1:=h x (by simp)
  have h2:=zZ (l:=r) (M:=M) (fun y hy=>h y (by simp [hy]))
  simp only [rl,List.length_cons,Nat.add_mul,Nat.one_mul]
  omega
theorem xJ:∀ {l:List PieceD} {x:PieceD},x∈l→x.text.length≤rl l
 |[],x,h=>by simp at h
 |y::r,x,h=>by
  simp only [List.mem_cons] at h
  simp only [rl]
  rcases h with rfl|h
  ·omega
  have:=xJ h;omega
theorem rm:∀ {l:List PieceD} {n:Int},0≤n→n+(rl l:Int)≤4611686018427387904→gS n l=n+(rl l:Int)
 |[],n,h0,h=>by simp [gS,rl]
 |x::r,n,h0,h=>by
  simp only [rl,Int.natCast_add] at h
  rw [gS,AO (by omega),rm (by omega) (by omega)]
  simp only [rl,Int.natCast_add]
  omega
theorem rn:∀ {l:List PieceD} {en:Int},0≤en→(∀ x∈l,x.text.length≤200)→gn en l=true→∀ x∈l,0≤x.pos∧x.pos≤2000000000
 |[],_,_,_,_=>by simp
 |y::r,en,h0,hl,h=>by
  simp only [gn,Bool.and_eq_true,decide_eq_true_eq] at h
  obtain⟨⟨⟨_,h1⟩,h2⟩,h3⟩:=h
  have hy:=hl y (by simp)
  rw [AO (by omega)] at h3
  intro x hx
  simp only [List.mem_cons] at hx
  rcases hx with rfl|hx
  ·exact⟨by omega,h1⟩
  exact rn (by omega) (fun z hz=>hl z (by simp [hz])) h3 x hx
structure SmallP (p:PiecesD):Prop where
 list:p.list.length≤1048576
 ready:p.ready.length≤1048576
 texts:∀ x∈p.list,x.text.length≤1048576
structure FineP (p:PiecesD):Prop where
 r0:0≤p.read
 r1:p.read≤1000000000
 list:p.list.length≤20
 ready:p.ready.length≤200
 texts:∀ x∈p.list,x.text.length≤200∧0≤x.pos∧x.pos≤2000000000
 next:nextOf p=p.read+(p.ready.length:Int)
theorem fd {p:PiecesD} (h:aG p=true) (hs:SmallP p):FineP p:=by
 simp only [aG,iQ,Bool.and_eq_true,decide_eq_true_eq] at h
 obtain⟨⟨⟨⟨h0,h1⟩,h2⟩,h3⟩,h4⟩:=h
 have hle:=zZ hs.texts
 have hr:=hs.ready
 have hm:p.list.length*1048576≤20*1048576:=Nat.mul_le_mul_right _ (by omega)
 rw [kp,rm (by omega) (by omega)] at h3
 have hn:nextOf p=p.read+(p.ready.length:Int):=by rw [nextOf,AO (by omega)]
 have ht:∀ x∈p.list,x.text.length≤200:=fun x hx=>by have:=xJ hx;omega
 refine⟨h0,h1,by omega,by omega,fun x hx=>⟨ht x hx,?_⟩,hn⟩
 rw [hn] at h4
 exact rn (by omega) ht h4 x hx
def ge (a b:PieceD):PieceD:=
 if b.pos < a.pos then⟨b.pos,b.text.take (a.pos - b.pos).toNat++a.text++b.text.drop ((a.pos - b.pos).toNat+a.text.length)⟩
 else⟨a.pos,a.text++b.text.drop (a.pos+(a.text.length:Int) - b.pos).toNat⟩
theorem xK {a b:PieceD} {n:Nat} (h:a.pos - b.pos=(n:Int)) (h0:0 < n):ge a b=⟨b.pos,b.text.take n++a.text++b.text.drop (n+a.text.length)⟩:=by
 rw [ge,if_pos (by omega),h,Int.toNat_natCast]
theorem xL {a b:PieceD} {n:Nat} (h:b.pos - a.pos=(n:Int)):ge a b=⟨a.pos,a.text++b.text.drop (a.text.length - n)⟩:=by
 rw [ge,if_neg (by omega),show (a.pos+(a.text.length:Int) - b.pos).toNat=a.text.length - n by omega]
theorem A4 {a b:PieceD}:(ge a b).text.length≤a.text.length+b.text.length:=by
 rw [ge]
 split<;>simp<;>omega
theorem A5 {a b:PieceD}:(ge a b).pos=a.pos∨(ge a b).pos=b.pos:=by
 rw [ge]
 split
 ·exact .inr rfl
 exact .inl rfl
structure PpS where
 own:PieceD
 laid:Bool
 acc:List PieceD
def l_ (g:PpS) (x:PieceD):PpS:=
 if x.pos+(x.text.length:Int) < g.own.pos then { g with acc:=g.acc++[x] }
 else if g.own.pos+(g.own.text.length:Int) < x.pos then⟨g.own,true,(if g.laid then g.acc else g.acc++[g.own])++[x]⟩
 else { g with own:=ge x g.own }
theorem mZ {g:PpS} {x:PieceD} (h:x.pos+(x.text.length:Int) < g.own.pos):l_ g x=⟨g.own,g.laid,g.acc++[x]⟩:=if_pos h
theorem m0 {g:PpS} {x:PieceD} (h:¬ x.pos+(x.text.length:Int) < g.own.pos) (h2:g.own.pos+(g.own.text.length:Int) < x.pos):
  l_ g x=⟨g.own,true,(if g.laid then g.acc else g.acc++[g.own])++[x]⟩:=by rw [l_,if_neg h,if_pos h2]
theorem m4 {g:PpS} {x:PieceD} (h:¬ x.pos+(x.text.length:Int) < g.own.pos) (h2:¬ g.own.pos+(g.own.text.length:Int) < x.pos):
  l_ g x=⟨ge x g.own,g.laid,g.acc⟩:=by rw [l_,if_neg h,if_neg h2]
def nT (g:PpS) (l:List PieceD):PpS:=l.foldl l_ g
theorem kS {g:PpS} {l:List PieceD} {k:Nat} (h:k < l.length):nT g (l.drop k)=nT (l_ g l[k]) (l.drop (k+1)):=by
 rw [List.drop_eq_getElem_cons h]
 rfl
theorem m5 {g:PpS} {l:List PieceD} {k:Nat} (h:l.length≤k):nT g (l.drop k)=g:=by
 rw [List.drop_eq_nil_of_le h]
 rfl
def oP (g:PpS):List PieceD:=if g.laid then g.acc else g.acc++[g.own]
def ro (p:PiecesD) (l:List PieceD):PiecesD:=if (l.headD default).pos=nextOf p then⟨p.read,p.ready++(l.headD default).text,l.tail⟩ else⟨p.read,p.ready,l⟩
def m6 (p:PiecesD) (l:List PieceD):PiecesD:=if aG (ro p l) then ro p l else p
def tq (p:PiecesD) (at':Int) (text:List UInt8):Bool:=aG p && iQ at' && cr (text.length:Int) 1 200
def ux (p:PiecesD) (at':Int) (text:List UInt8):PiecesD:=m6 p (oP (nT ⟨⟨at',text⟩,false,[]⟩ p.list))
def ca (p:PiecesD) (at':Int) (text:List UInt8):PiecesD:=
 if tq p at' text then
  if nextOf p - at'≥text.length then p
  else if 0 < nextOf p - at' then ux p (nextOf p) (text.drop (nextOf p - at').toNat) else ux p at' text
 else p
theorem YM {p:PiecesD} {n:Int} {t:List UInt8} (h:tq p n t=false):ca p n t=p:=by rw [ca,if_neg (by simp [h])]
theorem EP {p:PiecesD} {n:Int} {t:List UInt8} (h:tq p n t=true) (h2:(t.length:Int)≤nextOf p - n):ca p n t=p:=by rw [ca,if_pos h,if_pos h2]
theorem EQ {p:PiecesD} {n:Int} {t:List UInt8} {k:Nat} (h:tq p n t=true) (hk:nextOf p - n=(k:Int)) (h1:k < t.length) (h0:0 < k):ca p n t=ux p (nextOf p) (t.drop k):=by
 rw [ca,if_pos h,if_neg (by omega),if_pos (by omega),hk,Int.toNat_natCast]
theorem ER {p:PiecesD} {n:Int} {t:List UInt8} (h:tq p n t=true) (h0:nextOf p≤n):ca p n t=ux p n t:=by
 have:cr (t.length:Int) 1 200=true:=by simp only [tq,Bool.and_eq_true] at h;exact h.2
 simp only [cr,Bool.and_eq_true,decide_eq_true_eq] at this
 rw [ca,if_pos h,if_neg (by omega),if_neg (by omega)]
theorem dM {p:PiecesD} {l:List PieceD} (h:aG (ro p l)=false):m6 p l=p:=by rw [m6,if_neg (by simp [h])]
theorem dN {p:PiecesD} {l:List PieceD} (h:aG (ro p l)=true):m6 p l=ro p l:=by rw [m6,if_pos h]
structure PpI (k:Nat) (g:PpS):Prop where
 pos:0≤g.own.pos∧g.own.pos≤2000000000
 own:g.own.text.length≤200+200*k
 acc:g.acc.length≤k+(if g.laid then 1 else 0)
 texts:∀ z∈g.acc,z.text.length≤5000
 some:g.laid=true→g.acc≠[]
theorem m7 {n:Int} {t:List UInt8} (h0:0≤n) (h1:n≤2000000000) (ht:t.length≤200):PpI 0 ⟨⟨n,t⟩,false,[]⟩:=
 ⟨⟨h0,h1⟩,by simpa using ht,by simp,by simp,by simp⟩
theorem xM {k:Nat} {g:PpS} {x:PieceD} (h:PpI k g) (hx:x.text.length≤200):PpI (k+1) ⟨g.own,g.laid,g.acc++[x]⟩:=by
 refine⟨h.pos,by have:=h.own;dsimp only;omega,?_,?_,by simp⟩
 ·have:=h.acc
  simp only [List.length_append,List.length_singleton]
  split at this<;>simp_all<;>omega
 intro z hz
 simp only [List.mem_append,List.mem_singleton] at hz
 rcases hz with hz|rfl
 ·exact h.texts z hz
 omega
theorem vE {k:Nat} {g:PpS} {x:PieceD} (h:PpI k g) (hl:g.laid=true) (hx:x.text.length≤200):PpI (k+1) ⟨g.own,true,g.acc++[x]⟩:=by
 have:=xM h hx
 rw [hl] at this
 exact this
theorem vF {k:Nat} {g:PpS} {x:PieceD} (h:PpI k g) (hk:k≤20) (hl:g.laid=false) (hx:x.text.length≤200):PpI (k+1) ⟨g.own,true,g.acc++[g.own]++[x]⟩:=by
 refine⟨h.pos,by have:=h.own;dsimp only;omega,?_,?_,by simp⟩
 ·have:=h.acc
  rw [hl] at this
  simp at this⊢
  omega
 intro z hz
 have ho:=h.own
 simp only [List.mem_append,List.mem_singleton] at hz
 rcases hz with (hz|rfl)|rfl
 ·exact h.texts z hz
 ·omega
 omega
theorem z0 {k:Nat} {g:PpS} {x:PieceD} (h:PpI k g) (hx:x.text.length≤200) (h0:0≤x.pos) (h1:x.pos≤2000000000):PpI (k+1) ⟨ge x g.own,g.laid,g.acc⟩:=by
 have hp:=h.pos
 refine⟨?_,?_,?_,h.texts,h.some⟩
 ·dsimp only
  rcases A5 (a:=x) (b:=g.own) with e|e<;>rw [e]<;>omega
 ·have:=h.own
  have:=A4 (a:=x) (b:=g.own)
  dsimp only
  omega
 have:=h.acc
 dsimp only
 omega
theorem jJ {k:Nat} {g:PpS} (h:PpI k g) (hk:k≤20):∃ y r,oP g=y::r∧y.text.length≤5000∧(y::r).length≤100:=by
 have ha:=h.acc
 have ho:=h.own
 rw [oP]
 cases hl:g.laid with
 |true=>
  rw [hl] at ha
  simp at ha⊢
  cases hg:g.acc with
  |nil=>exact absurd hg (h.some hl)
  |cons y r=>
   rw [hg] at ha
   simp at ha
   exact⟨y,r,rfl,h.texts y (by simp [hg]),by omega⟩
 |false=>
  rw [hl] at ha
  simp at ha⊢
  cases hg:g.acc with
  |nil=>exact⟨g.own,[],rfl,by omega,by simp⟩
  |cons y r=>
   rw [hg] at ha
   simp at ha
   exact⟨y,r++[g.own],by simp,h.texts y (by simp [hg]),by simp;omega⟩
theorem iV {p:PiecesD} {y:PieceD} {r:List PieceD} (h:y.pos=nextOf p):ro p (y::r)=⟨p.read,p.ready++y.text,r⟩:=if_pos h
theorem iW {p:PiecesD} {y:PieceD} {r:List PieceD} (h:¬ y.pos=nextOf p):ro p (y::r)=⟨p.read,p.ready,y::r⟩:=if_neg h
theorem m8 {p:PiecesD} {n:Int} {t:List UInt8} {G:PpS} {l:List PieceD} (hG:nT ⟨⟨n,t⟩,false,[]⟩ p.list=G) (hl:oP G=l):ux p n t=m6 p l:=by rw [ux,hG,hl]
end
section
open Go.RowKit
theorem oQ (a b:PieceD) (ha:0≤a.pos∧a.pos≤4000000000) (hb:0≤b.pos∧b.pos≤4000000000) (la:a.text.length≤1048576) (lb:b.text.length≤1048576)
  (t1:¬ a.pos+(a.text.length:Int) < b.pos) (t2:¬ b.pos+(b.text.length:Int) < a.pos):ae Tryz.prog 335 [.ag a.cs,.ag b.cs] [] (.ag (ge a b).cs) []:=by
 by_cases h:b.pos < a.pos
 ·obtain⟨n,hn⟩:=Int.eq_ofNat_of_zero_le (show 0≤a.pos - b.pos by omega)
  rw [xK hn (by omega)]
  have hp:a.pos=b.pos+(n:Int):=by omega
  refine qE Tryz.func335 Tryz.ntmps335 Tryz.results335 fun E hE=>?_
  have hlt:(b.text.take n).length=n:=by simp;omega
  have hmin:(if a.pos - b.pos < (b.text.length:Int) then a.pos - b.pos else (b.text.length:Int))=(n:Int):=by split<;>omega
  refine qD [0,1,2,3,4,5,6,7,8,9,10,11,12,13,14,15,16,17,18] ?_
  try simp (disch:=omega) only [go_sem,seval,hmin]
  refine⟨qC,ac 400 ?_⟩
  try simp (disch:=omega) only [go_sem,seval,hmin]
  refine qB (fun h3=>?_) fun h3=>?_
  ·have he:(b.pos+(((b.text.take n).length:Int)+(a.text.length:Int)) - b.pos).toNat=n+a.text.length:=by omega
   have hd:(b.text.drop (n+a.text.length)).length≤b.text.length:=by simp
   refine qD [0,1,2,3,4,5,6,7,8,9,10,11] ?_
   try simp (disch:=omega) only [go_sem,seval,he]
   refine⟨by (try simp (disch:=omega) only [go_sem,List.length_set,seval,he])<;>omega,ac 400 ?_⟩
   try simp (disch:=omega) only [go_sem,seval,he]
   exact qF []
  refine qJ [] ?_
  rw [List.drop_of_length_le (by omega)]
  simp
 obtain⟨n,hn⟩:=Int.eq_ofNat_of_zero_le (show 0≤b.pos - a.pos by omega)
 rw [xL hn]
 have hp:b.pos=a.pos+(n:Int):=by omega
 refine qE Tryz.func335 Tryz.ntmps335 Tryz.results335 fun E hE=>?_
 refine qB (fun h3=>?_) fun h3=>?_
 ·have he:(a.pos+(a.text.length:Int) - b.pos).toNat=a.text.length - n:=by omega
  have hd:(b.text.drop (a.text.length - n)).length≤b.text.length:=by simp
  refine qD [0,1,2,3,4,5,6,7,8,9,10,11] ?_
  try simp (disch:=omega) only [go_sem,seval,he]
  refine⟨by (try simp (disch:=omega) only [go_sem,List.length_set,seval,he])<;>omega,ac 400 ?_⟩
  try simp (disch:=omega) only [go_sem,seval,he]
  exact qF []
 refine qJ [] ?_
 rw [List.drop_of_length_le (by omega)]
 simp
theorem m9 (a b:PieceD) (ha:0≤a.pos∧a.pos≤4000000000) (hb:0≤b.pos∧b.pos≤4000000000) (la:a.text.length≤1048576) (lb:b.text.length≤1048576)
  (t1:¬ a.pos+(a.text.length:Int) < b.pos) (t2:¬ b.pos+(b.text.length:Int) < a.pos):ae Tryz.prog 333 [.ag a.cs,.ag b.cs] [] (.ag (ge a b).cs) []:=by
 by_cases h:b.pos < a.pos
 ·obtain⟨n,hn⟩:=Int.eq_ofNat_of_zero_le (show 0≤a.pos - b.pos by omega)
  rw [xK hn (by omega)]
  have hp:a.pos=b.pos+(n:Int):=by omega
  have hlt:(b.text.take n).length=n:=by simp;omega
  refine qE Tryz.func333 Tryz.ntmps333 Tryz.results333 fun E hE=>?_
  try simp (disch:=omega) only [go_sem,seval,hn]
  refine qB (fun h3=>?_) fun h3=>?_
  ·refine qX ?_
   refine qB (fun h4=>?_) fun h4=>?_
   ·have he:((n:Int)+(a.text.length:Int)).toNat=n+a.text.length:=by omega
    have hd:(b.text.drop (n+a.text.length)).length≤b.text.length:=by simp
    try simp (disch:=omega) only [go_sem,seval,he]
    refine ah [] (by (try simp (disch:=omega) only [go_sem,List.length_set,seval,he])<;>omega) _ (by simp only [go_sem];rfl) (by rfl) (by rfl) ?_
    simp (disch:=omega) only [go_sem,seval]
   refine qX ?_
   refine qJ [] ?_
   rw [List.drop_of_length_le (by omega)]
   simp
  have h5:n=b.text.length:=by omega
  refine qX ?_
  refine qJ [] ?_
  rw [List.drop_of_length_le (by omega),List.take_of_length_le (by omega)]
  simp
 obtain⟨n,hn⟩:=Int.eq_ofNat_of_zero_le (show 0≤b.pos - a.pos by omega)
 rw [xL hn]
 have hp:b.pos=a.pos+(n:Int):=by omega
 refine qE Tryz.func333 Tryz.ntmps333 Tryz.results333 fun E hE=>?_
 try simp (disch:=omega) only [go_sem,seval,hn]
 refine qB (fun h3=>?_) fun h3=>?_
 ·refine qJ [] ?_
  rw [List.drop_of_length_le (by omega)]
  simp
 have he:((b.text.length:Int) - ((n:Int)+(b.text.length:Int) - (a.text.length:Int))).toNat=a.text.length - n:=by omega
 have hd:(b.text.drop (a.text.length - n)).length≤b.text.length:=by simp
 refine qD [0,1,2,3,4,5,6,7,8,9,10,11,12,13,14] ?_
 try simp (disch:=omega) only [go_sem,seval,he]
 refine⟨by (try simp (disch:=omega) only [go_sem,List.length_set,seval,he])<;>omega,ac 400 ?_⟩
 try simp (disch:=omega) only [go_sem,seval,he]
 exact qF []
end
section
open Go.RowKit
theorem tr (p:PiecesD) (n:Int) (t:List UInt8) (hs:SmallP p):ae Tryz.prog 330 [.ag (p.cs 0),.sc (.int .i64 n),.sc (.st t)] (p.hp false) (.ag ((ca p n t).cs 1))
  (p.hp false++(ca p n t).hp true):=by
 have hO:=bY p hs.list
 have hN:=iS p
 have hf:=YM (p:=p) (n:=n) (t:=t)
 have hold:=EP (p:=p) (n:=n) (t:=t)
 have hcut:=fun k=> @EQ p n t k
 have hnew:=ER (p:=p) (n:=n) (t:=t)
 have hok:=tq.eq_1 p n t
 generalize ca p n t=R at*
 refine qE Tryz.func330 Tryz.ntmps330 Tryz.results330 fun E hE=>?_
 refine qK (hO) (qI 0 1) ?_
 refine qB (fun h1=>?_) fun h1=>?_
 ·refine qK (cu [n] (by simp)) (qI 3 1) ?_
  simp only [List.all_cons,List.all_nil,Bool.and_true]
  refine qX ?_
  refine qB (fun h2=>?_) fun h2=>?_
  ·refine qX ?_
   refine qK (aO (t.length:Int) 1 200) [] ?_
   refine qB (fun h3=>?_) fun h3=>?_
   ·rw [hf (by rw [hok];simp [h3])]
    refine qX ?_
    refine qK (ay p hs.list) (qI 0 1) ?_
    exact qF (qI 0 1++qI 4 1)
   have hok1:tq p n t=true:=by rw [hok];simp [h1,h2,h3]
   have hF:=fd h1 hs
   have hn1:=h2
   have hn3:=h3
   simp only [iQ,cr,Bool.and_eq_true,decide_eq_true_eq] at hn1 hn3
   have hr0:=hF.r0
   have hr1:=hF.r1
   have hrl:=hF.list
   have hrr:=hF.ready
   have hnx:=hF.next
   refine qX ?_
   refine qK (hN) (qI 0 1) ?_
   refine qB (fun h4=>?_) fun h4=>?_
   ·obtain⟨m,hm⟩:=Int.eq_ofNat_of_zero_le (show 0≤nextOf p - n by omega)
    by_cases h7:t.length≤m
    ·rw [hold hok1 (by omega)]
     have hmin:(if nextOf p - n < (t.length:Int) then nextOf p - n else (t.length:Int))=(t.length:Int):=by split<;>omega
     have hz:(t.drop t.length == [])=true:=by simp
     try simp (disch:=omega) only [go_sem,seval,hmin,hz]
     refine qX ?_
     refine qK (ay p hs.list) (qI 0 1) ?_
     exact qF (qI 0 1++qI 5 1)
    rw [hcut m hok1 hm (by omega) (by omega)]
    have hmin:(if nextOf p - n < (t.length:Int) then nextOf p - n else (t.length:Int))=(m:Int):=by split<;>omega
    have hz:(t.drop m == [])=false:=by simp;omega
    have hI0:PpI 0 ⟨⟨nextOf p,t.drop m⟩,false,[]⟩:=m7 (by omega) (by omega) (by simp;omega)
    try simp (disch:=omega) only [go_sem,seval,hmin,hz]
    obtain⟨G,hG⟩:∃ G,nT ⟨⟨nextOf p,t.drop m⟩,false,[]⟩ p.list=G:=⟨_,rfl⟩
    refine an 1 hE (fun s (x:Nat×PpS)=>s.at (qU [0,3,12,45,60,47]) [(59,.sc (.int .i64 (x.1:Nat))),(10,.sc (.bo x.2.laid))] ([some ⟨p.list.map PieceD.cs,2,256,false,true⟩,some ⟨[p.cs 0],3,42,true,false⟩,some ⟨[[.int .i64 0,.st [],.nil]],3,42,true,false⟩,some ⟨[[.int .i64 n]],1,3,true,true⟩,some ⟨[[.int .i64 p.read,.st p.ready,.sl 6 0 x.2.acc.length]],3,42,true,false⟩,some ⟨[x.2.own.cs],2,256,true,false⟩,some ⟨x.2.acc.map PieceD.cs,2,256,true,true⟩])) (fun (x:Nat×PpS)=>x.1≤p.list.length∧PpI x.1 x.2∧nT x.2 (p.list.drop x.1)=G) (fun (x:Nat×PpS)=>p.list.length - x.1) (0,⟨⟨nextOf p,t.drop m⟩,false,[]⟩) (qI 0 6++qO 1) (qC) (⟨Nat.zero_le _,hI0,hG⟩) (af (by rfl) (by rfl) ?_) fun x hx N hN=>?_
    ·exact qY
    obtain⟨k,g⟩:=x
    obtain⟨hk1,hI,hgo⟩:=hx
    dsimp only at hk1 hI hgo
    have hIo:=hI.own
    have hIp:=hI.pos
    have hIa:=hI.acc
    have hac:g.acc.length≤100:=by split at hIa<;>omega
    refine qR ?_
    refine qB (fun h=>?_) fun h=>?_
    ·have hm:=hF.texts p.list[k] (List.getElem_mem h)
     obtain⟨hm1,hm2,hm3⟩:=hm
     rw [kS h] at hgo
     refine qX ?_
     refine qB (fun h2=>?_) fun h2=>?_
     ·rw [mZ (by omega)] at hgo
      refine qX ?_
      refine⟨qC,hN _ (k+1,⟨g.own,g.laid,g.acc++[p.list[k]]⟩) (qI 0 6++qI 9 1) (by (try dsimp only);exact⟨by omega,xM hI hm1,hgo⟩) (by (try dsimp only);omega) (af (by rfl) (by rfl) ?_)⟩
      try simp (disch:=omega) only [go_sem,seval]
      try simp [PieceD.cs]
     refine qX ?_
     refine qB (fun h3=>?_) fun h3=>?_
     ·rw [m0 (by omega) (by omega)] at hgo
      cases hgl:g.laid with
      |true=>
       rw [hgl,if_pos rfl] at hgo
       try simp (disch:=omega) only [go_sem,seval,hgl]
       refine⟨qC,hN _ (k+1,⟨g.own,true,g.acc++[p.list[k]]⟩) (qI 0 6++qI 9 1) (by (try dsimp only);exact⟨by omega,vE hI hgl hm1,hgo⟩) (by (try dsimp only);omega) (af (by rfl) (by rfl) ?_)⟩
       try simp (disch:=omega) only [go_sem,seval]
       try simp [PieceD.cs]
      |false=>
       rw [hgl,if_neg (by simp)] at hgo
       try simp (disch:=omega) only [go_sem,seval,hgl]
       refine⟨qC,hN _ (k+1,⟨g.own,true,g.acc++[g.own]++[p.list[k]]⟩) (qI 0 6++qI 11 1) (by (try dsimp only);exact⟨by omega,vF hI (by omega) hgl hm1,hgo⟩) (by (try dsimp only);omega) (af (by rfl) (by rfl) ?_)⟩
       try simp (disch:=omega) only [go_sem,seval]
       try simp [PieceD.cs]
     rw [m4 (by omega) (by omega)] at hgo
     refine qX ?_
     refine qK (oQ p.list[k] g.own (by omega) (by omega) (by omega) (by omega) (by omega) (by omega)) [] ?_
     refine⟨qC,hN _ (k+1,⟨ge p.list[k] g.own,g.laid,g.acc⟩) (qI 0 7) (by (try dsimp only);exact⟨by omega,z0 hI hm1 hm2 hm3,hgo⟩) (by (try dsimp only);omega) (af (by rfl) (by rfl) ?_)⟩
     try simp (disch:=omega) only [go_sem,seval]
     try simp [PieceD.cs]
    have hkl:k=p.list.length:=by omega
    rw [m5 (by omega)] at hgo
    subst hgo
    obtain⟨y,r,hyr,hyt,hyl⟩:=jJ hI (by omega)
    rw [m8 hG hyr]
    have hyr':=hyr
    rw [oP] at hyr'
    cases hgl:g.laid with
    |true=>
     rw [hgl,if_pos rfl] at hyr'
     rw [hyr']
     try simp (disch:=omega) only [go_sem,seval,hgl,List.map_cons]
     refine qX ?_
     refine qB (fun h5=>?_) fun h5=>?_
     ·refine qD [0,1,2,3,4,5,6,7,8,9] ?_
      refine⟨qC,ac 400 ?_⟩
      have hE1:= @iV p y r h5
      refine qX ?_
      refine qK (bY ⟨p.read,p.ready++y.text,r⟩ (by simp at hyl⊢;omega)) [some (6,some 1)] ?_
      refine qB (fun h6=>?_) fun h6=>?_
      ·rw [dM (by rw [hE1];exact h6)]
       refine qX ?_
       refine qK (ay p hs.list) (qI 0 1) ?_
       exact qF (qI 0 1++qI 7 1)
      rw [dN (by rw [hE1];exact h6),hE1]
      refine qX ?_
      refine qK (ay ⟨p.read,p.ready++y.text,r⟩ (by simp at hyl⊢;omega)) [some (6,some 1)] ?_
      refine ah (qI 0 1++qI 7 1) (qC) _ (by simp only [go_sem];rfl) (by rfl) (by rfl) ?_
      simp (disch:=omega) only [go_sem,seval]
      try simp
     have hE1:= @iW p y r h5
     refine qX ?_
     refine qK (bY ⟨p.read,p.ready,y::r⟩ (by simp at hyl⊢;omega)) (qI 6 1) ?_
     refine qB (fun h6=>?_) fun h6=>?_
     ·rw [dM (by rw [hE1];exact h6)]
      refine qX ?_
      refine qK (ay p hs.list) (qI 0 1) ?_
      exact qF (qI 0 1++qI 7 1)
     rw [dN (by rw [hE1];exact h6),hE1]
     refine qX ?_
     refine qK (ay ⟨p.read,p.ready,y::r⟩ (by simp at hyl⊢;omega)) (qI 6 1) ?_
     refine ah (qI 0 1++qI 7 1) (qC) _ (by simp only [go_sem];rfl) (by rfl) (by rfl) ?_
     simp (disch:=omega) only [go_sem,seval]
     try simp
    |false=>
     rw [hgl,if_neg (by simp)] at hyr'
     have e1:g.acc.map PieceD.cs++[g.own.cs]=PieceD.cs y::r.map PieceD.cs:=by rw [←List.map_cons,←hyr'];simp
     have e2:g.acc.length+1=r.length+1:=by have:=congrArg List.length hyr';simpa using this
     simp only [PieceD.cs] at e1
     try simp (disch:=omega) only [go_sem,seval,hgl,e1,e2]
     refine qX ?_
     refine qB (fun h5=>?_) fun h5=>?_
     ·refine qD [0,1,2,3,4,5,6,7,8,9] ?_
      refine⟨qC,ac 400 ?_⟩
      have hE1:= @iV p y r h5
      refine qX ?_
      refine qK (bY ⟨p.read,p.ready++y.text,r⟩ (by simp at hyl⊢;omega)) [some (8,some 1)] ?_
      refine qB (fun h6=>?_) fun h6=>?_
      ·rw [dM (by rw [hE1];exact h6)]
       refine qX ?_
       refine qK (ay p hs.list) (qI 0 1) ?_
       exact qF (qI 0 1++qI 9 1)
      rw [dN (by rw [hE1];exact h6),hE1]
      refine qX ?_
      refine qK (ay ⟨p.read,p.ready++y.text,r⟩ (by simp at hyl⊢;omega)) [some (8,some 1)] ?_
      refine ah (qI 0 1++qI 9 1) (qC) _ (by simp only [go_sem];rfl) (by rfl) (by rfl) ?_
      simp (disch:=omega) only [go_sem,seval]
      try simp
     have hE1:= @iW p y r h5
     refine qX ?_
     refine qK (bY ⟨p.read,p.ready,y::r⟩ (by simp at hyl⊢;omega)) (qI 8 1) ?_
     refine qB (fun h6=>?_) fun h6=>?_
     ·rw [dM (by rw [hE1];exact h6)]
      refine qX ?_
      refine qK (ay p hs.list) (qI 0 1) ?_
      exact qF (qI 0 1++qI 9 1)
     rw [dN (by rw [hE1];exact h6),hE1]
     refine qX ?_
     refine qK (ay ⟨p.read,p.ready,y::r⟩ (by simp at hyl⊢;omega)) (qI 8 1) ?_
     refine ah (qI 0 1++qI 9 1) (qC) _ (by simp only [go_sem];rfl) (by rfl) (by rfl) ?_
     simp (disch:=omega) only [go_sem,seval]
     try simp
   rw [hnew hok1 (by omega)]
   have hz:(t == [])=false:=by cases t<;>simp_all
   have hI0:PpI 0 ⟨⟨n,t⟩,false,[]⟩:=m7 (by omega) (by omega) (by omega)
   try simp (disch:=omega) only [go_sem,seval,hz]
   obtain⟨G,hG⟩:∃ G,nT ⟨⟨n,t⟩,false,[]⟩ p.list=G:=⟨_,rfl⟩
   refine an 1 hE (fun s (x:Nat×PpS)=>s.at (qU [0,3,12,45,60,47]) [(59,.sc (.int .i64 (x.1:Nat))),(10,.sc (.bo x.2.laid))] ([some ⟨p.list.map PieceD.cs,2,256,false,true⟩,some ⟨[p.cs 0],3,42,true,false⟩,some ⟨[[.int .i64 0,.st [],.nil]],3,42,true,false⟩,some ⟨[[.int .i64 n]],1,3,true,true⟩,some ⟨[[.int .i64 p.read,.st p.ready,.sl 6 0 x.2.acc.length]],3,42,true,false⟩,some ⟨[x.2.own.cs],2,256,true,false⟩,some ⟨x.2.acc.map PieceD.cs,2,256,true,true⟩])) (fun (x:Nat×PpS)=>x.1≤p.list.length∧PpI x.1 x.2∧nT x.2 (p.list.drop x.1)=G) (fun (x:Nat×PpS)=>p.list.length - x.1) (0,⟨⟨n,t⟩,false,[]⟩) (qI 0 6++qO 1) (qC) (⟨Nat.zero_le _,hI0,hG⟩) (af (by rfl) (by rfl) ?_) fun x hx N hN=>?_
   ·exact qY
   obtain⟨k,g⟩:=x
   obtain⟨hk1,hI,hgo⟩:=hx
   dsimp only at hk1 hI hgo
   have hIo:=hI.own
   have hIp:=hI.pos
   have hIa:=hI.acc
   have hac:g.acc.length≤100:=by split at hIa<;>omega
   refine qR ?_
   refine qB (fun h=>?_) fun h=>?_
   ·have hm:=hF.texts p.list[k] (List.getElem_mem h)
    obtain⟨hm1,hm2,hm3⟩:=hm
    rw [kS h] at hgo
    refine qX ?_
    refine qB (fun h2=>?_) fun h2=>?_
    ·rw [mZ (by omega)] at hgo
     refine qX ?_
     refine⟨qC,hN _ (k+1,⟨g.own,g.laid,g.acc++[p.list[k]]⟩) (qI 0 6++qI 9 1) (by (try dsimp only);exact⟨by omega,xM hI hm1,hgo⟩) (by (try dsimp only);omega) (af (by rfl) (by rfl) ?_)⟩
     try simp (disch:=omega) only [go_sem,seval]
     try simp [PieceD.cs]
    refine qX ?_
    refine qB (fun h3=>?_) fun h3=>?_
    ·rw [m0 (by omega) (by omega)] at hgo
     cases hgl:g.laid with
     |true=>
      rw [hgl,if_pos rfl] at hgo
      try simp (disch:=omega) only [go_sem,seval,hgl]
      refine⟨qC,hN _ (k+1,⟨g.own,true,g.acc++[p.list[k]]⟩) (qI 0 6++qI 9 1) (by (try dsimp only);exact⟨by omega,vE hI hgl hm1,hgo⟩) (by (try dsimp only);omega) (af (by rfl) (by rfl) ?_)⟩
      try simp (disch:=omega) only [go_sem,seval]
      try simp [PieceD.cs]
     |false=>
      rw [hgl,if_neg (by simp)] at hgo
      try simp (disch:=omega) only [go_sem,seval,hgl]
      refine⟨qC,hN _ (k+1,⟨g.own,true,g.acc++[g.own]++[p.list[k]]⟩) (qI 0 6++qI 11 1) (by (try dsimp only);exact⟨by omega,vF hI (by omega) hgl hm1,hgo⟩) (by (try dsimp only);omega) (af (by rfl) (by rfl) ?_)⟩
      try simp (disch:=omega) only [go_sem,seval]
      try simp [PieceD.cs]
    rw [m4 (by omega) (by omega)] at hgo
    refine qX ?_
    refine qK (oQ p.list[k] g.own (by omega) (by omega) (by omega) (by omega) (by omega) (by omega)) [] ?_
    refine⟨qC,hN _ (k+1,⟨ge p.list[k] g.own,g.laid,g.acc⟩) (qI 0 7) (by (try dsimp only);exact⟨by omega,z0 hI hm1 hm2 hm3,hgo⟩) (by (try dsimp only);omega) (af (by rfl) (by rfl) ?_)⟩
    try simp (disch:=omega) only [go_sem,seval]
    try simp [PieceD.cs]
   have hkl:k=p.list.length:=by omega
   rw [m5 (by omega)] at hgo
   subst hgo
   obtain⟨y,r,hyr,hyt,hyl⟩:=jJ hI (by omega)
   rw [m8 hG hyr]
   have hyr':=hyr
   rw [oP] at hyr'
   cases hgl:g.laid with
   |true=>
    rw [hgl,if_pos rfl] at hyr'
    rw [hyr']
    try simp (disch:=omega) only [go_sem,seval,hgl,List.map_cons]
    refine qX ?_
    refine qB (fun h5=>?_) fun h5=>?_
    ·refine qD [0,1,2,3,4,5,6,7,8,9] ?_
     refine⟨qC,ac 400 ?_⟩
     have hE1:= @iV p y r h5
     refine qX ?_
     refine qK (bY ⟨p.read,p.ready++y.text,r⟩ (by simp at hyl⊢;omega)) [some (6,some 1)] ?_
     refine qB (fun h6=>?_) fun h6=>?_
     ·rw [dM (by rw [hE1];exact h6)]
      refine qX ?_
      refine qK (ay p hs.list) (qI 0 1) ?_
      exact qF (qI 0 1++qI 7 1)
     rw [dN (by rw [hE1];exact h6),hE1]
     refine qX ?_
     refine qK (ay ⟨p.read,p.ready++y.text,r⟩ (by simp at hyl⊢;omega)) [some (6,some 1)] ?_
     refine ah (qI 0 1++qI 7 1) (qC) _ (by simp only [go_sem];rfl) (by rfl) (by rfl) ?_
     simp (disch:=omega) only [go_sem,seval]
     try simp
    have hE1:= @iW p y r h5
    refine qX ?_
    refine qK (bY ⟨p.read,p.ready,y::r⟩ (by simp at hyl⊢;omega)) (qI 6 1) ?_
    refine qB (fun h6=>?_) fun h6=>?_
    ·rw [dM (by rw [hE1];exact h6)]
     refine qX ?_
     refine qK (ay p hs.list) (qI 0 1) ?_
     exact qF (qI 0 1++qI 7 1)
    rw [dN (by rw [hE1];exact h6),hE1]
    refine qX ?_
    refine qK (ay ⟨p.read,p.ready,y::r⟩ (by simp at hyl⊢;omega)) (qI 6 1) ?_
    refine ah (qI 0 1++qI 7 1) (qC) _ (by simp only [go_sem];rfl) (by rfl) (by rfl) ?_
    simp (disch:=omega) only [go_sem,seval]
    try simp
   |false=>
    rw [hgl,if_neg (by simp)] at hyr'
    have e1:g.acc.map PieceD.cs++[g.own.cs]=PieceD.cs y::r.map PieceD.cs:=by rw [←List.map_cons,←hyr'];simp
    have e2:g.acc.length+1=r.length+1:=by have:=congrArg List.length hyr';simpa using this
    simp only [PieceD.cs] at e1
    try simp (disch:=omega) only [go_sem,seval,hgl,e1,e2]
    refine qX ?_
    refine qB (fun h5=>?_) fun h5=>?_
    ·refine qD [0,1,2,3,4,5,6,7,8,9] ?_
     refine⟨qC,ac 400 ?_⟩
     have hE1:= @iV p y r h5
     refine qX ?_
     refine qK (bY ⟨p.read,p.ready++y.text,r⟩ (by simp at hyl⊢;omega)) [some (8,some 1)] ?_
     refine qB (fun h6=>?_) fun h6=>?_
     ·rw [dM (by rw [hE1];exact h6)]
      refine qX ?_
      refine qK (ay p hs.list) (qI 0 1) ?_
      exact qF (qI 0 1++qI 9 1)
     rw [dN (by rw [hE1];exact h6),hE1]
     refine qX ?_
     refine qK (ay ⟨p.read,p.ready++y.text,r⟩ (by simp at hyl⊢;omega)) [some (8,some 1)] ?_
     refine ah (qI 0 1++qI 9 1) (qC) _ (by simp only [go_sem];rfl) (by rfl) (by rfl) ?_
     simp (disch:=omega) only [go_sem,seval]
     try simp
    have hE1:= @iW p y r h5
    refine qX ?_
    refine qK (bY ⟨p.read,p.ready,y::r⟩ (by simp at hyl⊢;omega)) (qI 8 1) ?_
    refine qB (fun h6=>?_) fun h6=>?_
    ·rw [dM (by rw [hE1];exact h6)]
     refine qX ?_
     refine qK (ay p hs.list) (qI 0 1) ?_
     exact qF (qI 0 1++qI 9 1)
    rw [dN (by rw [hE1];exact h6),hE1]
    refine qX ?_
    refine qK (ay ⟨p.read,p.ready,y::r⟩ (by simp at hyl⊢;omega)) (qI 8 1) ?_
    refine ah (qI 0 1++qI 9 1) (qC) _ (by simp only [go_sem];rfl) (by rfl) (by rfl) ?_
    simp (disch:=omega) only [go_sem,seval]
    try simp
  rw [hf (by rw [hok];simp [h2])]
  refine qX ?_
  refine qK (ay p hs.list) (qI 0 1) ?_
  exact qF (qI 0 1++qI 4 1)
 rw [hf (by rw [hok];simp [h1])]
 refine qX ?_
 refine qK (ay p hs.list) (qI 0 1) ?_
 exact qF (qI 0 1++qI 3 1)
theorem ts (p:PiecesD) (n:Int) (t:List UInt8) (hs:SmallP p):ae Tryz.prog 317 [.ag (p.cs 0),.sc (.int .i64 n),.sc (.st t)] (p.hp false) (.ag ((ca p n t).cs 1))
  (p.hp false++(ca p n t).hp false):=by
 have hO:=bZ p hs.list
 have hN:=dZ p
 have hf:=YM (p:=p) (n:=n) (t:=t)
 have hold:=EP (p:=p) (n:=n) (t:=t)
 have hcut:=fun k=> @EQ p n t k
 have hnew:=ER (p:=p) (n:=n) (t:=t)
 have hok:=tq.eq_1 p n t
 generalize ca p n t=R at*
 refine AJ Tryz.func317 (by kernel_rfl) rfl fun E hE=>ac 400 ?_
 simp (disch:=omega) only [Tryz.ntmps317,Tryz.results317,go_sem,seval]
 refine qK (jD p hs.list) (qI 0 1) ?_
 refine qK (hO) (qI 0 1) ?_
 refine qB (fun h1=>?_) fun h1=>?_
 ·refine qK (aM n 0 1000000000) [] ?_
  rw [vg]
  refine qX ?_
  refine qB (fun h2=>?_) fun h2=>?_
  ·refine qX ?_
   refine qK (aM (t.length:Int) 1 200) [] ?_
   refine qB (fun h3=>?_) fun h3=>?_
   ·rw [hf (by rw [hok];simp [h3])]
    refine qX ?_
    refine cd (qI 0 1++qI 3 1) (qC) _ (by simp only [go_sem];rfl) (by rfl) (by rfl) ?_
    simp (disch:=omega) only [go_sem,seval]
   have hok1:tq p n t=true:=by rw [hok];simp [h1,h2,h3]
   have hF:=fd h1 hs
   have hn1:=h2
   have hn3:=h3
   simp only [iQ,cr,Bool.and_eq_true,decide_eq_true_eq] at hn1 hn3
   have hr0:=hF.r0
   have hr1:=hF.r1
   have hrl:=hF.list
   have hrr:=hF.ready
   have hnx:=hF.next
   refine qX ?_
   refine qK (hN) (qI 0 1) ?_
   refine qB (fun h4=>?_) fun h4=>?_
   ·rw [hold hok1 h4]
    refine qX ?_
    refine cd (qI 0 1++qI 3 1) (qC) _ (by simp only [go_sem];rfl) (by rfl) (by rfl) ?_
    simp (disch:=omega) only [go_sem,seval]
   refine qX ?_
   refine qB (fun h7=>?_) fun h7=>?_
   ·obtain⟨m,hm⟩:=Int.eq_ofNat_of_zero_le (show 0≤nextOf p - n by omega)
    rw [hcut m hok1 hm (by omega) (by omega)]
    have hnn:nextOf p=n+(m:Int):=by omega
    have hI0:PpI 0 ⟨⟨nextOf p,t.drop m⟩,false,[]⟩:=m7 (by omega) (by omega) (by simp;omega)
    have hadd:n+(m:Int)=nextOf p:=by omega
    try simp (disch:=omega) only [go_sem,seval,hm,hadd]
    obtain⟨G,hG⟩:∃ G,nT ⟨⟨nextOf p,t.drop m⟩,false,[]⟩ p.list=G:=⟨_,rfl⟩
    refine an 1 hE (fun s (x:Nat×PpS)=>s.at (qU [0,3,9,1,13,100]) [(12,.sc (.int .i64 (x.1:Nat))),(11,.sc (.bo x.2.laid))] ([some ⟨p.list.map PieceD.cs,2,256,false,true⟩,some ⟨[p.cs 0],3,42,true,false⟩,some ⟨[[.int .i64 0,.st [],.nil]],3,42,true,false⟩,some ⟨p.list.map PieceD.cs,2,256,true,true⟩,some ⟨[p.cs 3],3,42,true,false⟩,some ⟨[x.2.own.cs],2,256,true,false⟩,some ⟨x.2.acc.map PieceD.cs,2,256,true,true⟩,some ⟨[[.int .i64 p.read,.st p.ready,.sl 6 0 x.2.acc.length]],3,42,true,false⟩])) (fun (x:Nat×PpS)=>x.1≤p.list.length∧PpI x.1 x.2∧nT x.2 (p.list.drop x.1)=G) (fun (x:Nat×PpS)=>p.list.length - x.1) (0,⟨⟨nextOf p,t.drop m⟩,false,[]⟩) (qI 0 8) (qC) (⟨Nat.zero_le _,hI0,hG⟩) (af (by rfl) (by rfl) ?_) fun x hx N hN=>?_
    ·exact qY
    obtain⟨k,g⟩:=x
    obtain⟨hk1,hI,hgo⟩:=hx
    dsimp only at hk1 hI hgo
    have hIo:=hI.own
    have hIp:=hI.pos
    have hIa:=hI.acc
    have hac:g.acc.length≤100:=by split at hIa<;>omega
    refine qR ?_
    refine qB (fun h=>?_) fun h=>?_
    ·have hm:=hF.texts p.list[k] (List.getElem_mem h)
     obtain⟨hm1,hm2,hm3⟩:=hm
     rw [kS h] at hgo
     refine qX ?_
     refine qB (fun h2=>?_) fun h2=>?_
     ·rw [mZ (by omega)] at hgo
      refine qX ?_
      refine⟨qC,hN _ (k+1,⟨g.own,g.laid,g.acc++[p.list[k]]⟩) (qI 0 6++qI 10 1++qI 7 1) (by (try dsimp only);exact⟨by omega,xM hI hm1,hgo⟩) (by (try dsimp only);omega) (af (by rfl) (by rfl) ?_)⟩
      try simp (disch:=omega) only [go_sem,seval]
      try simp [PieceD.cs]
     refine qX ?_
     refine qB (fun h3=>?_) fun h3=>?_
     ·rw [m0 (by omega) (by omega)] at hgo
      cases hgl:g.laid with
      |true=>
       rw [hgl,if_pos rfl] at hgo
       try simp (disch:=omega) only [go_sem,seval,hgl]
       refine⟨qC,hN _ (k+1,⟨g.own,true,g.acc++[p.list[k]]⟩) (qI 0 6++qI 10 1++qI 7 1) (by (try dsimp only);exact⟨by omega,vE hI hgl hm1,hgo⟩) (by (try dsimp only);omega) (af (by rfl) (by rfl) ?_)⟩
       try simp (disch:=omega) only [go_sem,seval]
       try simp [PieceD.cs]
      |false=>
       rw [hgl,if_neg (by simp)] at hgo
       try simp (disch:=omega) only [go_sem,seval,hgl]
       refine⟨qC,hN _ (k+1,⟨g.own,true,g.acc++[g.own]++[p.list[k]]⟩) (qI 0 6++qI 12 1++qI 7 1) (by (try dsimp only);exact⟨by omega,vF hI (by omega) hgl hm1,hgo⟩) (by (try dsimp only);omega) (af (by rfl) (by rfl) ?_)⟩
       try simp (disch:=omega) only [go_sem,seval]
       try simp [PieceD.cs]
     rw [m4 (by omega) (by omega)] at hgo
     refine qX ?_
     refine qK (m9 p.list[k] g.own (by omega) (by omega) (by omega) (by omega) (by omega) (by omega)) [] ?_
     refine⟨qC,hN _ (k+1,⟨ge p.list[k] g.own,g.laid,g.acc⟩) (qI 0 8) (by (try dsimp only);exact⟨by omega,z0 hI hm1 hm2 hm3,hgo⟩) (by (try dsimp only);omega) (af (by rfl) (by rfl) ?_)⟩
     try simp (disch:=omega) only [go_sem,seval]
     try simp [PieceD.cs]
    have hkl:k=p.list.length:=by omega
    rw [m5 (by omega)] at hgo
    subst hgo
    obtain⟨y,r,hyr,hyt,hyl⟩:=jJ hI (by omega)
    rw [m8 hG hyr]
    have hyr':=hyr
    rw [oP] at hyr'
    cases hgl:g.laid with
    |true=>
     rw [hgl,if_pos rfl] at hyr'
     rw [hyr']
     try simp (disch:=omega) only [go_sem,seval,hgl,List.map_cons]
     refine qD [0,1,2,3,4,5,6,7] ?_
     refine az (dZ ⟨p.read,p.ready,y::r⟩) (qI 6 1) ?_
     refine⟨qC,ac 400 ?_⟩
     rw [show nextOf ⟨p.read,p.ready,y::r⟩=nextOf p from rfl]
     refine qX ?_
     refine qB (fun h5=>?_) fun h5=>?_
     ·refine qD [0,1,2,3,4,5,6,7,8,9] ?_
      refine⟨qC,ac 400 ?_⟩
      have hE1:= @iV p y r h5
      refine qX ?_
      refine qK (bZ ⟨p.read,p.ready++y.text,r⟩ (by simp at hyl⊢;omega)) [some (6,some 1)] ?_
      refine qB (fun h6=>?_) fun h6=>?_
      ·rw [dM (by rw [hE1];exact h6)]
       refine qX ?_
       refine cd (qI 0 1++qI 3 1) (qC) _ (by simp only [go_sem];rfl) (by rfl) (by rfl) ?_
       simp (disch:=omega) only [go_sem,seval]
      rw [dN (by rw [hE1];exact h6),hE1]
      refine qX ?_
      refine cd [some (0,none),some (6,some 1)] (qC) _ (by simp only [go_sem];rfl) (by rfl) (by rfl) ?_
      simp (disch:=omega) only [go_sem,seval]
      try simp
     have hE1:= @iW p y r h5
     refine qX ?_
     refine qK (bZ ⟨p.read,p.ready,y::r⟩ (by simp at hyl⊢;omega)) (qI 6 1) ?_
     refine qB (fun h6=>?_) fun h6=>?_
     ·rw [dM (by rw [hE1];exact h6)]
      refine qX ?_
      refine cd (qI 0 1++qI 3 1) (qC) _ (by simp only [go_sem];rfl) (by rfl) (by rfl) ?_
      simp (disch:=omega) only [go_sem,seval]
     rw [dN (by rw [hE1];exact h6),hE1]
     refine qX ?_
     refine cd (qI 0 1++qI 6 1) (qC) _ (by simp only [go_sem];rfl) (by rfl) (by rfl) ?_
     simp (disch:=omega) only [go_sem,seval]
     try simp
    |false=>
     rw [hgl,if_neg (by simp)] at hyr'
     have e1:g.acc.map PieceD.cs++[g.own.cs]=PieceD.cs y::r.map PieceD.cs:=by rw [←List.map_cons,←hyr'];simp
     have e2:g.acc.length+1=r.length+1:=by have:=congrArg List.length hyr';simpa using this
     simp only [PieceD.cs] at e1
     try simp (disch:=omega) only [go_sem,seval,hgl,e1,e2]
     refine qD [0,1,2,3,4,5,6,7] ?_
     refine az (dZ ⟨p.read,p.ready,y::r⟩) (qI 9 1) ?_
     refine⟨qC,ac 400 ?_⟩
     rw [show nextOf ⟨p.read,p.ready,y::r⟩=nextOf p from rfl]
     refine qX ?_
     refine qB (fun h5=>?_) fun h5=>?_
     ·refine qD [0,1,2,3,4,5,6,7,8,9] ?_
      refine⟨qC,ac 400 ?_⟩
      have hE1:= @iV p y r h5
      refine qX ?_
      refine qK (bZ ⟨p.read,p.ready++y.text,r⟩ (by simp at hyl⊢;omega)) [some (9,some 1)] ?_
      refine qB (fun h6=>?_) fun h6=>?_
      ·rw [dM (by rw [hE1];exact h6)]
       refine qX ?_
       refine cd (qI 0 1++qI 3 1) (qC) _ (by simp only [go_sem];rfl) (by rfl) (by rfl) ?_
       simp (disch:=omega) only [go_sem,seval]
      rw [dN (by rw [hE1];exact h6),hE1]
      refine qX ?_
      refine cd [some (0,none),some (9,some 1)] (qC) _ (by simp only [go_sem];rfl) (by rfl) (by rfl) ?_
      simp (disch:=omega) only [go_sem,seval]
      try simp
     have hE1:= @iW p y r h5
     refine qX ?_
     refine qK (bZ ⟨p.read,p.ready,y::r⟩ (by simp at hyl⊢;omega)) (qI 9 1) ?_
     refine qB (fun h6=>?_) fun h6=>?_
     ·rw [dM (by rw [hE1];exact h6)]
      refine qX ?_
      refine cd (qI 0 1++qI 3 1) (qC) _ (by simp only [go_sem];rfl) (by rfl) (by rfl) ?_
      simp (disch:=omega) only [go_sem,seval]
     rw [dN (by rw [hE1];exact h6),hE1]
     refine qX ?_
     refine cd (qI 0 1++qI 9 1) (qC) _ (by simp only [go_sem];rfl) (by rfl) (by rfl) ?_
     simp (disch:=omega) only [go_sem,seval]
     try simp
   rw [hnew hok1 (by omega)]
   have hI0:PpI 0 ⟨⟨n,t⟩,false,[]⟩:=m7 (by omega) (by omega) (by omega)
   refine qX ?_
   obtain⟨G,hG⟩:∃ G,nT ⟨⟨n,t⟩,false,[]⟩ p.list=G:=⟨_,rfl⟩
   refine an 1 hE (fun s (x:Nat×PpS)=>s.at (qU [0,3,9,1,13,100]) [(12,.sc (.int .i64 (x.1:Nat))),(11,.sc (.bo x.2.laid))] ([some ⟨p.list.map PieceD.cs,2,256,false,true⟩,some ⟨[p.cs 0],3,42,true,false⟩,some ⟨[[.int .i64 0,.st [],.nil]],3,42,true,false⟩,some ⟨p.list.map PieceD.cs,2,256,true,true⟩,some ⟨[p.cs 3],3,42,true,false⟩,some ⟨[x.2.own.cs],2,256,true,false⟩,some ⟨x.2.acc.map PieceD.cs,2,256,true,true⟩,some ⟨[[.int .i64 p.read,.st p.ready,.sl 6 0 x.2.acc.length]],3,42,true,false⟩])) (fun (x:Nat×PpS)=>x.1≤p.list.length∧PpI x.1 x.2∧nT x.2 (p.list.drop x.1)=G) (fun (x:Nat×PpS)=>p.list.length - x.1) (0,⟨⟨n,t⟩,false,[]⟩) (qI 0 8) (qC) (⟨Nat.zero_le _,hI0,hG⟩) (af (by rfl) (by rfl) ?_) fun x hx N hN=>?_
   ·exact qY
   obtain⟨k,g⟩:=x
   obtain⟨hk1,hI,hgo⟩:=hx
   dsimp only at hk1 hI hgo
   have hIo:=hI.own
   have hIp:=hI.pos
   have hIa:=hI.acc
   have hac:g.acc.length≤100:=by split at hIa<;>omega
   refine qR ?_
   refine qB (fun h=>?_) fun h=>?_
   ·have hm:=hF.texts p.list[k] (List.getElem_mem h)
    obtain⟨hm1,hm2,hm3⟩:=hm
    rw [kS h] at hgo
    refine qX ?_
    refine qB (fun h2=>?_) fun h2=>?_
    ·rw [mZ (by omega)] at hgo
     refine qX ?_
     refine⟨qC,hN _ (k+1,⟨g.own,g.laid,g.acc++[p.list[k]]⟩) (qI 0 6++qI 10 1++qI 7 1) (by (try dsimp only);exact⟨by omega,xM hI hm1,hgo⟩) (by (try dsimp only);omega) (af (by rfl) (by rfl) ?_)⟩
     try simp (disch:=omega) only [go_sem,seval]
     try simp [PieceD.cs]
    refine qX ?_
    refine qB (fun h3=>?_) fun h3=>?_
    ·rw [m0 (by omega) (by omega)] at hgo
     cases hgl:g.laid with
     |true=>
      rw [hgl,if_pos rfl] at hgo
      try simp (disch:=omega) only [go_sem,seval,hgl]
      refine⟨qC,hN _ (k+1,⟨g.own,true,g.acc++[p.list[k]]⟩) (qI 0 6++qI 10 1++qI 7 1) (by (try dsimp only);exact⟨by omega,vE hI hgl hm1,hgo⟩) (by (try dsimp only);omega) (af (by rfl) (by rfl) ?_)⟩
      try simp (disch:=omega) only [go_sem,seval]
      try simp [PieceD.cs]
     |false=>
      rw [hgl,if_neg (by simp)] at hgo
      try simp (disch:=omega) only [go_sem,seval,hgl]
      refine⟨qC,hN _ (k+1,⟨g.own,true,g.acc++[g.own]++[p.list[k]]⟩) (qI 0 6++qI 12 1++qI 7 1) (by (try dsimp only);exact⟨by omega,vF hI (by omega) hgl hm1,hgo⟩) (by (try dsimp only);omega) (af (by rfl) (by rfl) ?_)⟩
      try simp (disch:=omega) only [go_sem,seval]
      try simp [PieceD.cs]
    rw [m4 (by omega) (by omega)] at hgo
    refine qX ?_
    refine qK (m9 p.list[k] g.own (by omega) (by omega) (by omega) (by omega) (by omega) (by omega)) [] ?_
    refine⟨qC,hN _ (k+1,⟨ge p.list[k] g.own,g.laid,g.acc⟩) (qI 0 8) (by (try dsimp only);exact⟨by omega,z0 hI hm1 hm2 hm3,hgo⟩) (by (try dsimp only);omega) (af (by rfl) (by rfl) ?_)⟩
    try simp (disch:=omega) only [go_sem,seval]
    try simp [PieceD.cs]
   have hkl:k=p.list.length:=by omega
   rw [m5 (by omega)] at hgo
   subst hgo
   obtain⟨y,r,hyr,hyt,hyl⟩:=jJ hI (by omega)
   rw [m8 hG hyr]
   have hyr':=hyr
   rw [oP] at hyr'
   cases hgl:g.laid with
   |true=>
    rw [hgl,if_pos rfl] at hyr'
    rw [hyr']
    try simp (disch:=omega) only [go_sem,seval,hgl,List.map_cons]
    refine qD [0,1,2,3,4,5,6,7] ?_
    refine az (dZ ⟨p.read,p.ready,y::r⟩) (qI 6 1) ?_
    refine⟨qC,ac 400 ?_⟩
    rw [show nextOf ⟨p.read,p.ready,y::r⟩=nextOf p from rfl]
    refine qX ?_
    refine qB (fun h5=>?_) fun h5=>?_
    ·refine qD [0,1,2,3,4,5,6,7,8,9] ?_
     refine⟨qC,ac 400 ?_⟩
     have hE1:= @iV p y r h5
     refine qX ?_
     refine qK (bZ ⟨p.read,p.ready++y.text,r⟩ (by simp at hyl⊢;omega)) [some (6,some 1)] ?_
     refine qB (fun h6=>?_) fun h6=>?_
     ·rw [dM (by rw [hE1];exact h6)]
      refine qX ?_
      refine cd (qI 0 1++qI 3 1) (qC) _ (by simp only [go_sem];rfl) (by rfl) (by rfl) ?_
      simp (disch:=omega) only [go_sem,seval]
     rw [dN (by rw [hE1];exact h6),hE1]
     refine qX ?_
     refine cd [some (0,none),some (6,some 1)] (qC) _ (by simp only [go_sem];rfl) (by rfl) (by rfl) ?_
     simp (disch:=omega) only [go_sem,seval]
     try simp
    have hE1:= @iW p y r h5
    refine qX ?_
    refine qK (bZ ⟨p.read,p.ready,y::r⟩ (by simp at hyl⊢;omega)) (qI 6 1) ?_
    refine qB (fun h6=>?_) fun h6=>?_
    ·rw [dM (by rw [hE1];exact h6)]
     refine qX ?_
     refine cd (qI 0 1++qI 3 1) (qC) _ (by simp only [go_sem];rfl) (by rfl) (by rfl) ?_
     simp (disch:=omega) only [go_sem,seval]
    rw [dN (by rw [hE1];exact h6),hE1]
    refine qX ?_
    refine cd (qI 0 1++qI 6 1) (qC) _ (by simp only [go_sem];rfl) (by rfl) (by rfl) ?_
    simp (disch:=omega) only [go_sem,seval]
    try simp
   |false=>
    rw [hgl,if_neg (by simp)] at hyr'
    have e1:g.acc.map PieceD.cs++[g.own.cs]=PieceD.cs y::r.map PieceD.cs:=by rw [←List.map_cons,←hyr'];simp
    have e2:g.acc.length+1=r.length+1:=by have:=congrArg List.length hyr';simpa using this
    simp only [PieceD.cs] at e1
    try simp (disch:=omega) only [go_sem,seval,hgl,e1,e2]
    refine qD [0,1,2,3,4,5,6,7] ?_
    refine az (dZ ⟨p.read,p.ready,y::r⟩) (qI 9 1) ?_
    refine⟨qC,ac 400 ?_⟩
    rw [show nextOf ⟨p.read,p.ready,y::r⟩=nextOf p from rfl]
    refine qX ?_
    refine qB (fun h5=>?_) fun h5=>?_
    ·refine qD [0,1,2,3,4,5,6,7,8,9] ?_
     refine⟨qC,ac 400 ?_⟩
     have hE1:= @iV p y r h5
     refine qX ?_
     refine qK (bZ ⟨p.read,p.ready++y.text,r⟩ (by simp at hyl⊢;omega)) [some (9,some 1)] ?_
     refine qB (fun h6=>?_) fun h6=>?_
     ·rw [dM (by rw [hE1];exact h6)]
      refine qX ?_
      refine cd (qI 0 1++qI 3 1) (qC) _ (by simp only [go_sem];rfl) (by rfl) (by rfl) ?_
      simp (disch:=omega) only [go_sem,seval]
     rw [dN (by rw [hE1];exact h6),hE1]
     refine qX ?_
     refine cd [some (0,none),some (9,some 1)] (qC) _ (by simp only [go_sem];rfl) (by rfl) (by rfl) ?_
     simp (disch:=omega) only [go_sem,seval]
     try simp
    have hE1:= @iW p y r h5
    refine qX ?_
    refine qK (bZ ⟨p.read,p.ready,y::r⟩ (by simp at hyl⊢;omega)) (qI 9 1) ?_
    refine qB (fun h6=>?_) fun h6=>?_
    ·rw [dM (by rw [hE1];exact h6)]
     refine qX ?_
     refine cd (qI 0 1++qI 3 1) (qC) _ (by simp only [go_sem];rfl) (by rfl) (by rfl) ?_
     simp (disch:=omega) only [go_sem,seval]
    rw [dN (by rw [hE1];exact h6),hE1]
    refine qX ?_
    refine cd (qI 0 1++qI 9 1) (qC) _ (by simp only [go_sem];rfl) (by rfl) (by rfl) ?_
    simp (disch:=omega) only [go_sem,seval]
    try simp
  rw [hf (by rw [hok];simp [h2])]
  refine qX ?_
  refine cd (qI 0 1++qI 3 1) (qC) _ (by simp only [go_sem];rfl) (by rfl) (by rfl) ?_
  simp (disch:=omega) only [go_sem,seval]
 rw [hf (by rw [hok];simp [h1])]
 refine qX ?_
 refine cd (qI 0 1++qI 3 1) (qC) _ (by simp only [go_sem];rfl) (by rfl) (by rfl) ?_
 simp (disch:=omega) only [go_sem,seval]
end
section
open Go.RowKit
theorem xN {p:PiecesD} (h:aG p=true):p.list.length≤20:=by
 simp only [aG,Bool.and_eq_true,decide_eq_true_eq] at h
 omega
theorem ES (p:PiecesD) (l:List PieceD):m6 p l=p∨aG (m6 p l)=true:=by
 rw [m6]
 split
 ·rename_i h;exact .inr h
 exact .inl rfl
theorem xO (p:PiecesD) (n:Int) (t:List UInt8):ca p n t=p∨aG (ca p n t)=true:=by
 rw [ca]
 split
 ·split
  ·exact .inl rfl
  split<;>exact ES _ _
 exact .inl rfl
theorem kz {p:PiecesD} {n:Int} {t:List UInt8} (h:p.list.length≤1048576):(ca p n t).list.length≤1048576:=by
 rcases xO p n t with e|e
 ·rw [e];exact h
 have:=xN e;omega
def rp (e:EndD) (x:LetterD):PiecesD:=ca e.inp x.pos x.text
def rq (e:EndD) (x:LetterD):Bool:=decide (0≤gI e x) && decide (nextOf (rp e x)≤1000000000)
def z1 (x:LetterD) (n m:Int):LetterD:=bc (ak x) { aw with kind:=12,sgn:=n,pos:=m }
def co (e:EndD) (x:LetterD):EndD×List LetterD:=
 if rq e x then ({ e with inp:=rp e x },[z1 x (bq e.subs (gI e x).toNat).give (nextOf (rp e x))]) else (e,[])
theorem rr {e:EndD} {x:LetterD} (h:rq e x=false):co e x=(e,[]):=by rw [co,if_neg (by simp [h])]
theorem rt {e:EndD} {x:LetterD} {n:Nat} (h:rq e x=true) (ho:gI e x=(n:Int)) (hn:n < e.subs.length):
  co e x=({ e with inp:=rp e x },[z1 x e.subs[n].give (nextOf (rp e x))]):=by rw [co,if_pos h,ho,Int.toNat_natCast,bR hn]
def EndD.hpS (x:EndD):Hp:=[some ⟨x.own.map AddrD.cs,4,88,true,true⟩,some ⟨x.far.map AddrD.cs,4,88,true,true⟩,some ⟨x.subs.map SubD.cs,10,201,true,true⟩,some ⟨x.halfs.map HalfD.cs,8,213,true,true⟩,some ⟨x.inp.list.map PieceD.cs,2,256,false,true⟩,some ⟨x.done.map aC,1,3,true,true⟩,some ⟨x.over.map aC,1,3,true,true⟩]
attribute [go_sem] EndD.hpS
def cT (e:EndD) (x:LetterD):Bool:=aj e && eb x && gH e.own x.to
def cZ (e:EndD) (x:LetterD):EndD×List LetterD:=
 if cT e x then
  if x.kind=1 then bX e x else if x.kind=2 then cf e x else if x.kind=4 then bT e x else if x.kind=5 then bd e x
  else if x.kind=6 then aL e x else if x.kind=7 then bh e x else if x.kind=8 then cj e x else if x.kind=9 then ck e x
  else if x.kind=10 then cm e x else if x.kind=11 then co e x else if x.kind=12 then ce e x else if x.kind=13 then bK e x else (e,[])
 else (e,[])
theorem vG {e:EndD} {x:LetterD} (h:cT e x=false):cZ e x=(e,[]):=by rw [cZ,if_neg (by simp [h])]
theorem y5 {e:EndD} {x:LetterD} (h:∀ k:Int,k=1∨k=2∨4≤k∧k≤13→¬ x.kind=k):cZ e x=(e,[]):=by
 by_cases hc:cT e x=true
 ·rw [cZ,if_pos hc,if_neg (h 1 (by omega)),if_neg (h 2 (by omega)),if_neg (h 4 (by omega)),if_neg (h 5 (by omega)),if_neg (h 6 (by omega)),if_neg (h 7 (by omega)),if_neg (h 8 (by omega)),if_neg (h 9 (by omega)),if_neg (h 10 (by omega)),if_neg (h 11 (by omega)),if_neg (h 12 (by omega)),if_neg (h 13 (by omega))]
 exact vG (by simpa using hc)
theorem y6 {e:EndD} {x:LetterD} (h:cT e x=true) (hk:x.kind=1):cZ e x=bX e x:=by rw [cZ,if_pos h];simp [hk]
theorem y7 {e:EndD} {x:LetterD} (h:cT e x=true) (hk:x.kind=2):cZ e x=cf e x:=by rw [cZ,if_pos h];simp [hk]
theorem y8 {e:EndD} {x:LetterD} (h:cT e x=true) (hk:x.kind=4):cZ e x=bT e x:=by rw [cZ,if_pos h];simp [hk]
theorem y9 {e:EndD} {x:LetterD} (h:cT e x=true) (hk:x.kind=5):cZ e x=bd e x:=by rw [cZ,if_pos h];simp [hk]
theorem y_ {e:EndD} {x:LetterD} (h:cT e x=true) (hk:x.kind=6):cZ e x=aL e x:=by rw [cZ,if_pos h];simp [hk]
theorem za {e:EndD} {x:LetterD} (h:cT e x=true) (hk:x.kind=7):cZ e x=bh e x:=by rw [cZ,if_pos h];simp [hk]
theorem zb {e:EndD} {x:LetterD} (h:cT e x=true) (hk:x.kind=8):cZ e x=cj e x:=by rw [cZ,if_pos h];simp [hk]
theorem zc {e:EndD} {x:LetterD} (h:cT e x=true) (hk:x.kind=9):cZ e x=ck e x:=by rw [cZ,if_pos h];simp [hk]
theorem vH {e:EndD} {x:LetterD} (h:cT e x=true) (hk:x.kind=10):cZ e x=cm e x:=by rw [cZ,if_pos h];simp [hk]
theorem vI {e:EndD} {x:LetterD} (h:cT e x=true) (hk:x.kind=11):cZ e x=co e x:=by rw [cZ,if_pos h];simp [hk]
theorem vJ {e:EndD} {x:LetterD} (h:cT e x=true) (hk:x.kind=12):cZ e x=ce e x:=by rw [cZ,if_pos h];simp [hk]
theorem vK {e:EndD} {x:LetterD} (h:cT e x=true) (hk:x.kind=13):cZ e x=bK e x:=by rw [cZ,if_pos h];simp [hk]
end
section
open Go.RowKit
theorem tt (e:EndD) (x:LetterD) (hs:Small e) (hsp:SmallP e.inp):ae Tryz.prog 307 [.ag (e.cs 0),.ag x.cs] (e.hp false) (.tu [.ag ((co e x).1.cs 7),.sc (.sl 14 0 (co e x).2.length)])
  (e.hp false++((co e x).1.hp true++[some ⟨(co e x).2.map LetterD.cs,19,91,true,true⟩])):=by
 have hC:=(qH (aK e))
 have hK:=(qH (bf e))
 have hS:=ee e x (by have:=hs.subs;omega)
 have hL:=bt x
 have hbs:=eG e x
 have hP:=tr e.inp x.pos x.text hsp
 have hbd:=fV e x
 have hf:=rr (e:=e) (x:=x)
 have ht:=fun (n:Nat)=> @rt e x n
 have hok:=rq.eq_1 e x
 have hql:(rp e x).list.length≤1048576:=kz (by have:=hs.list;omega)
 rw [show ca e.inp x.pos x.text=rp e x from rfl] at hP
 generalize rp e x=Q at*
 generalize co e x=R at*
 refine qE Tryz.func307 Tryz.ntmps307 Tryz.results307 fun E hE=>?_
 refine qK (hC) (qI 0 7) ?_
 refine qK (hS) (qI 0 7) ?_
 rcases hbs with hk|⟨hk0,hk1⟩
 ·rw [hk]
  refine qX ?_
  refine qK (hK) (qI 0 7) ?_
  refine qB (fun h1=>?_) fun h1=>?_
  ·refine qK (hL) [] ?_
   refine qB (fun h2=>?_) fun h2=>?_
   ·rw [hf (by rw [hok];have:=cb (e:=e) (x:=x) (by rintro⟨_,_,hh⟩;omega);simp;omega)]
    refine qX ?_
    exact qF (qI 0 7++qI 10 7++qO 1)
   rw [hf (by rw [hok];have:=cb (e:=e) (x:=x) (by rintro⟨_,hh,_⟩;rw [h2] at hh;cases hh);simp;omega)]
   refine qX ?_
   exact qF (qI 0 7++qI 10 7++qO 1)
  rw [hf (by rw [hok];have:=cb (e:=e) (x:=x) (by rintro⟨hh,_⟩;rw [h1] at hh;cases hh);simp;omega)]
  refine qX ?_
  exact qF (qI 0 7++qI 10 7++qO 1)
 obtain⟨n,hk⟩:=Int.eq_ofNat_of_zero_le hk0
 have hn:n < e.subs.length:=by omega
 rw [hk]
 refine qX ?_
 refine qK (hK) (qI 0 7) ?_
 refine qB (fun h1=>?_) fun h1=>?_
 ·refine qK (hL) [] ?_
  refine qB (fun h2=>?_) fun h2=>?_
  ·have hon:=kq h1 h2 hk
   have hq1:=h1
   refine qX ?_
   refine qK (hP) (qI 4 1) ?_
   refine qK (iS Q) (qI 18 1) ?_
   refine qB (fun h7=>?_) fun h7=>?_
   ·rw [hf (by rw [hok];simp;omega)]
    refine qX ?_
    exact qF (qI 0 7++qI 10 7++qO 1)
   rw [ht _ (by rw [hok];simp [hon];omega) hon hn]
   refine qX ?_
   refine aT [(13,14)] [(qU [0,2,3,7,2,1,10,6]),[0,1,3,4,5,6,7,8,9,2,10,11,12,14,13,15]] (by kernel_rfl) (qC) (by kernel_rfl) ?_
   simp only [aQ]
   refine⟨aa 400 ?_,aa 400 ?_⟩
   all_goals simp (disch:=omega) only [go_sem,seval]
   all_goals
    refine az (di x) [] ?_
    refine az (iS Q) (qI 18 1) ?_
    refine az (bg (ak x) { aw with kind:=12,sgn:=e.subs[n].give,pos:=nextOf Q }) [] ?_
    refine qG ?_
    refine ah (qI 0 7++qI 10 4++qI 18 1++qI 15 2++qI 20 1) (qC) _ (by simp only [go_sem];rfl) (by rfl) (by rfl) ?_
    simp (disch:=omega) only [go_sem,seval]
    try simp [z1,bc,LetterD.cs]
  rw [hf (by rw [hok];have:=cb (e:=e) (x:=x) (by rintro⟨_,hh,_⟩;rw [h2] at hh;cases hh);simp;omega)]
  refine qX ?_
  exact qF (qI 0 7++qI 10 7++qO 1)
 rw [hf (by rw [hok];have:=cb (e:=e) (x:=x) (by rintro⟨hh,_⟩;rw [h1] at hh;cases hh);simp;omega)]
 refine qX ?_
 exact qF (qI 0 7++qI 10 7++qO 1)
theorem tv (e:EndD) (x:LetterD) (hs:Small e) (hsp:SmallP e.inp):ae Tryz.prog 290 [.ag (e.cs 0),.ag x.cs] (e.hp false) (.tu [.ag ((co e x).1.cs 7),.sc (.sl 14 0 (co e x).2.length)])
  (e.hp false++((co e x).1.hpS++[some ⟨(co e x).2.map LetterD.cs,19,91,true,true⟩])):=by
 have hC:=(qH (aD e))
 have hK:=(qH (be e))
 have hS:=gr e x hs
 have hP:=ts e.inp x.pos x.text hsp
 have hbd:=fV e x
 have hf:=rr (e:=e) (x:=x)
 have ht:=fun (n:Nat)=> @rt e x n
 have hok:=rq.eq_1 e x
 have hql:(rp e x).list.length≤1048576:=kz (by have:=hs.list;omega)
 rw [show ca e.inp x.pos x.text=rp e x from rfl] at hP
 generalize rp e x=Q at*
 generalize co e x=R at*
 refine qE Tryz.func290 Tryz.ntmps290 Tryz.results290 fun E hE=>?_
 refine qK (hC) (qI 0 7) ?_
 refine qK (hS) (qI 0 7) ?_
 rcases hbd with hon|⟨n,hon,hk,hn,hq1,hq2⟩
 ·rw [hf (by rw [hok];simp [hon]),hon]
  refine qX ?_
  exact qF (qI 0 7++qI 10 7++qI 18 1)
 rw [hon]
 refine qX ?_
 refine qX ?_
 refine qK (hP) (qI 4 1) ?_
 refine qK (dZ Q) (qI 19 1) ?_
 refine qB (fun h7=>?_) fun h7=>?_
 ·rw [hf (by rw [hok];simp;omega)]
  refine qX ?_
  exact qF (qI 0 7++qI 10 7++qI 18 1)
 rw [ht _ (by rw [hok];simp [hon];omega) hon hn]
 refine qX ?_
 refine aT [(0,15),(3,0),(11,0),(13,0),(14,0)] [(qU [1,2,4,7,3,1,11,4,0,1,15,3]),(qU [1,2,4,7,3,1,11,3,0,1,14,4]),(qU [1,2,4,7,3,1,11,2,0,1,13,5]),(qU [1,2,4,7,3,1,0,1,11,7]),(qU [1,2,4,7,0,1,3,1,11,7]),(qU [1,2,4,7,3,1,11,5,0,1,16,2])] (by kernel_rfl) (qC) (by kernel_rfl) ?_
 simp only [aQ]
 refine⟨aa 400 ?_,aa 400 ?_,aa 400 ?_,aa 400 ?_,aa 400 ?_,aa 400 ?_⟩
 all_goals simp (disch:=omega) only [go_sem,seval]
 all_goals
  refine az (ci x) [] ?_
  refine az (dZ Q) (qI 19 1) ?_
  refine az (aX (ak x) { aw with kind:=12,sgn:=e.subs[n].give,pos:=nextOf Q }) [] ?_
  refine qG ?_
  refine ah (qI 0 7++qI 10 4++qI 19 1++qI 15 2++qI 22 1) (qC) _ (by simp only [go_sem];rfl) (by rfl) (by rfl) ?_
  simp (disch:=omega) only [go_sem,seval]
  try simp [z1,bc,LetterD.cs]
end
section
open Go.RowKit
theorem uy (e:EndD) (x:LetterD) (hs:Small e) (hsp:SmallP e.inp):ae Tryz.prog 248 [.ag (e.cs 0),.ag x.cs] (e.hp false) (.tu [.ag ((cZ e x).1.cs 7),.sc (.sl 14 0 (cZ e x).2.length)])
  (e.hp false++((cZ e x).1.hp true++[some ⟨(cZ e x).2.map LetterD.cs,19,91,true,true⟩])):=by
 have hC:=(qH (aK e))
 have hK:=(qH (bf e))
 have hL:=bt x
 have hO:=gB e x.to (by have:=hs.own;omega)
 have hf:=vG (e:=e) (x:=x)
 have hno:=y5 (e:=e) (x:=x)
 have hr1:=y6 (e:=e) (x:=x)
 have hr2:=y7 (e:=e) (x:=x)
 have hr4:=y8 (e:=e) (x:=x)
 have hr5:=y9 (e:=e) (x:=x)
 have hr6:=y_ (e:=e) (x:=x)
 have hr7:=za (e:=e) (x:=x)
 have hr8:=zb (e:=e) (x:=x)
 have hr9:=zc (e:=e) (x:=x)
 have hr10:=vH (e:=e) (x:=x)
 have hr11:=vI (e:=e) (x:=x)
 have hr12:=vJ (e:=e) (x:=x)
 have hr13:=vK (e:=e) (x:=x)
 generalize cZ e x=R at*
 refine qE Tryz.func248 Tryz.ntmps248 Tryz.results248 fun E hE=>?_
 refine qK (hK) (qI 0 7) ?_
 refine qB (fun h1=>?_) fun h1=>?_
 ·refine qK (hL) [] ?_
  refine qB (fun h2=>?_) fun h2=>?_
  ·refine qK (hO) (qI 0 7) ?_
   refine qB (fun h3=>?_) fun h3=>?_
   ·rw [hf (by simp [cT,h1,h2,h3])]
    refine qX ?_
    refine qK (hC) (qI 0 7) ?_
    exact qF (qI 0 7++qI 10 7++qO 1)
   have hh:cT e x=true:=by simp [cT,h1,h2,h3]
   refine qX ?_
   refine qB (fun k1=>?_) fun k1=>?_
   ·rw [hr1 hh k1]
    refine qX ?_
    refine qK (qs e x hs) (qI 0 7) ?_
    exact qF (qI 0 7++qI 10 8)
   refine qX ?_
   refine qB (fun k2=>?_) fun k2=>?_
   ·rw [hr2 hh k2]
    refine qX ?_
    refine qK (s_ e x hs) (qI 0 7) ?_
    exact qF (qI 0 7++qI 10 8)
   refine qX ?_
   refine qB (fun k4=>?_) fun k4=>?_
   ·rw [hr4 hh k4]
    refine qX ?_
    refine qK (te e x hs) (qI 0 7) ?_
    exact qF (qI 0 7++qI 10 8)
   refine qX ?_
   refine qB (fun k5=>?_) fun k5=>?_
   ·rw [hr5 hh k5]
    refine qX ?_
    refine qK (mS e x hs) (qI 0 7) ?_
    exact qF (qI 0 7++qI 10 8)
   refine qX ?_
   refine qB (fun k6=>?_) fun k6=>?_
   ·rw [hr6 hh k6]
    refine qX ?_
    refine qK (mU e x hs) (qI 0 7) ?_
    exact qF (qI 0 7++qI 10 8)
   refine qX ?_
   refine qB (fun k7=>?_) fun k7=>?_
   ·rw [hr7 hh k7]
    refine qX ?_
    refine qK (nP e x hs) (qI 0 7) ?_
    exact qF (qI 0 7++qI 10 8)
   refine qX ?_
   refine qB (fun k8=>?_) fun k8=>?_
   ·rw [hr8 hh k8]
    refine qX ?_
    refine qK (tg e x hs) (qI 0 7) ?_
    exact qF (qI 0 7++qI 10 8)
   refine qX ?_
   refine qB (fun k9=>?_) fun k9=>?_
   ·rw [hr9 hh k9]
    refine qX ?_
    refine qK (ti e x hs) (qI 0 7) ?_
    exact qF (qI 0 7++qI 10 8)
   refine qX ?_
   refine qB (fun k10=>?_) fun k10=>?_
   ·rw [hr10 hh k10]
    refine qX ?_
    refine qK (tj e x hs) (qI 0 7) ?_
    exact qF (qI 0 7++qI 10 8)
   refine qX ?_
   refine qB (fun k11=>?_) fun k11=>?_
   ·rw [hr11 hh k11]
    refine qX ?_
    refine qK (tt e x hs hsp) (qI 0 7) ?_
    exact qF (qI 0 7++qI 10 8)
   refine qX ?_
   refine qB (fun k12=>?_) fun k12=>?_
   ·rw [hr12 hh k12]
    refine qX ?_
    refine qK (sY e x hs) (qI 0 7) ?_
    exact qF (qI 0 7++qI 10 8)
   refine qX ?_
   refine qB (fun k13=>?_) fun k13=>?_
   ·rw [hr13 hh k13]
    refine qX ?_
    refine qK (qu e x hs) (qI 0 7) ?_
    exact qF (qI 0 7++qI 10 8)
   refine qX ?_
   rw [hno (by intro k hk;omega)]
   refine qX ?_
   refine qK (hC) (qI 0 7) ?_
   exact qF (qI 0 7++qI 10 7++qO 1)
  rw [hf (by simp [cT,h2])]
  refine qX ?_
  refine qK (hC) (qI 0 7) ?_
  exact qF (qI 0 7++qI 10 7++qO 1)
 rw [hf (by simp [cT,h1])]
 refine qX ?_
 refine qK (hC) (qI 0 7) ?_
 exact qF (qI 0 7++qI 10 7++qO 1)
theorem uz (e:EndD) (x:LetterD) (hs:Small e) (hsp:SmallP e.inp):ae Tryz.prog 220 [.ag (e.cs 0),.ag x.cs] (e.hp false) (.tu [.ag ((cZ e x).1.cs 7),.sc (.sl 14 0 (cZ e x).2.length)])
  (e.hp false++((cZ e x).1.hpS++[some ⟨(cZ e x).2.map LetterD.cs,19,91,true,true⟩])):=by
 have hC:=(qH (aD e))
 have hK:=(qH (be e))
 have hL:=cL x
 have hO:=gC e x.to (by have:=hs.own;omega)
 have hf:=vG (e:=e) (x:=x)
 have hno:=y5 (e:=e) (x:=x)
 have hr1:=y6 (e:=e) (x:=x)
 have hr2:=y7 (e:=e) (x:=x)
 have hr4:=y8 (e:=e) (x:=x)
 have hr5:=y9 (e:=e) (x:=x)
 have hr6:=y_ (e:=e) (x:=x)
 have hr7:=za (e:=e) (x:=x)
 have hr8:=zb (e:=e) (x:=x)
 have hr9:=zc (e:=e) (x:=x)
 have hr10:=vH (e:=e) (x:=x)
 have hr11:=vI (e:=e) (x:=x)
 have hr12:=vJ (e:=e) (x:=x)
 have hr13:=vK (e:=e) (x:=x)
 generalize cZ e x=R at*
 refine qE Tryz.func220 Tryz.ntmps220 Tryz.results220 fun E hE=>?_
 refine qK (hK) (qI 0 7) ?_
 refine qB (fun h1=>?_) fun h1=>?_
 ·refine qK (hL) [] ?_
  refine qB (fun h2=>?_) fun h2=>?_
  ·refine qK (hO) (qI 0 7) ?_
   refine qB (fun h3=>?_) fun h3=>?_
   ·rw [hf (by simp [cT,h1,h2,h3])]
    refine qX ?_
    refine qK (hC) (qI 0 7) ?_
    exact qF (qI 0 7++qI 10 8)
   have hh:cT e x=true:=by simp [cT,h1,h2,h3]
   refine qX ?_
   refine qB (fun k1=>?_) fun k1=>?_
   ·rw [hr1 hh k1]
    refine qX ?_
    refine qK (qt e x hs) (qI 0 7) ?_
    exact qF (qI 0 7++qI 10 8)
   refine qX ?_
   refine qB (fun k2=>?_) fun k2=>?_
   ·rw [hr2 hh k2]
    refine qX ?_
    refine qK (ta e x hs) (qI 0 7) ?_
    exact qF (qI 0 7++qI 10 8)
   refine qX ?_
   refine qB (fun k4=>?_) fun k4=>?_
   ·rw [hr4 hh k4]
    refine qX ?_
    refine qK (tf e x hs) (qI 0 7) ?_
    exact qF (qI 0 7++qI 10 8)
   refine qX ?_
   refine qB (fun k5=>?_) fun k5=>?_
   ·rw [hr5 hh k5]
    refine qX ?_
    refine qK (mT e x hs) (qI 0 7) ?_
    exact qF (qI 0 7++qI 10 8)
   refine qX ?_
   refine qB (fun k6=>?_) fun k6=>?_
   ·rw [hr6 hh k6]
    refine qX ?_
    refine qK (mV e x hs) (qI 0 7) ?_
    exact qF (qI 0 7++qI 10 8)
   refine qX ?_
   refine qB (fun k7=>?_) fun k7=>?_
   ·rw [hr7 hh k7]
    refine qX ?_
    refine qK (nQ e x hs) (qI 0 7) ?_
    exact qF (qI 0 7++qI 10 8)
   refine qX ?_
   refine qB (fun k8=>?_) fun k8=>?_
   ·rw [hr8 hh k8]
    refine qX ?_
    refine qK (th e x hs) (qI 0 7) ?_
    exact qF (qI 0 7++qI 10 8)
   refine qX ?_
   refine qB (fun k9=>?_) fun k9=>?_
   ·rw [hr9 hh k9]
    refine qX ?_
    refine qK (tn e x hs) (qI 0 7) ?_
    exact qF (qI 0 7++qI 10 8)
   refine qX ?_
   refine qB (fun k10=>?_) fun k10=>?_
   ·rw [hr10 hh k10]
    refine qX ?_
    refine qK (tp e x hs) (qI 0 7) ?_
    exact qF (qI 0 7++qI 10 8)
   refine qX ?_
   refine qB (fun k11=>?_) fun k11=>?_
   ·rw [hr11 hh k11]
    refine qX ?_
    refine qK (tv e x hs hsp) (qI 0 7) ?_
    exact qF (qI 0 7++qI 10 8)
   refine qX ?_
   refine qB (fun k12=>?_) fun k12=>?_
   ·rw [hr12 hh k12]
    refine qX ?_
    refine qK (sZ e x hs) (qI 0 7) ?_
    exact qF (qI 0 7++qI 10 8)
   refine qX ?_
   refine qB (fun k13=>?_) fun k13=>?_
   ·rw [hr13 hh k13]
    refine qX ?_
    refine qK (qv e x hs) (qI 0 7) ?_
    exact qF (qI 0 7++qI 10 8)
   refine qX ?_
   rw [hno (by intro k hk;omega)]
   refine qX ?_
   refine qK (hC) (qI 0 7) ?_
   exact qF (qI 0 7++qI 10 8)
  rw [hf (by simp [cT,h2])]
  refine qX ?_
  refine qK (hC) (qI 0 7) ?_
  exact qF (qI 0 7++qI 10 8)
 rw [hf (by simp [cT,h1])]
 refine qX ?_
 refine qK (hC) (qI 0 7) ?_
 exact qF (qI 0 7++qI 10 8)
end
section
open Go.RowKit
theorem m_ (k:KnownD) (t:TagD) (h0:k.keys.length≤1048576) (h1:k.tags.length≤1048576):ae Tryz.prog 250 [.ag (k.cs 0),.ag t.cs] (k.hp false) (.sc (.bo (fU k t))) (k.hp false):=by
 obtain⟨R,hR⟩:∃ R,R=fU k t:=⟨_,rfl⟩
 rw [←hR]
 rw [fU] at hR
 have hcmp:=TagD.cmp t jy
 simp only [TagD.cs,jy,go_sem] at hcmp
 have ht:jy=⟨0,0,0,0,0⟩:=rfl
 refine qE Tryz.func250 Tryz.ntmps250 Tryz.results250 fun E hE=>?_
 try simp (disch:=omega) only [go_sem,seval,hcmp]
 refine qB (fun b1=>?_) fun b1=>?_
 ·have b1':=of_decide_eq_false b1
  refine qK (eH k.keys t.one h0) (qI 0 1) ?_
  refine qB (fun b2=>?_) fun b2=>?_
  ·refine qK (eH k.keys t.two h0) (qI 0 1) ?_
   refine qB (fun b3=>?_) fun b3=>?_
   ·have hR':R=true:=by rw [hR];simp [b2,b3]
    subst hR'
    refine qX ?_
    exact qF (qI 0 2)
   have hR':R=(k.tags.take 300).any (fun u=>decide (u=t)):=by rw [hR,ht];simp [b1',b2,b3]
   refine qX ?_
   refine an 2 hE (fun s (i:Nat)=>s.at (qU [0,2,4,1,6,35]) [(5,.sc (.int .i64 (i:Nat)))] (s.hp)) (fun (i:Nat)=>i≤k.tags.length∧i≤300∧((k.tags.take 300).drop i).any (fun u=>decide (u=t))=R) (fun (i:Nat)=>k.tags.length - i) 0 (qI 0 4) (qC) (⟨Nat.zero_le _,Nat.zero_le _,by rw [hR'];rfl⟩) (af (by rfl) (by rfl) ?_) fun i hi N hN=>?_
   ·exact qY
   obtain⟨hi1,hi2,hi3⟩:=hi
   refine qR ?_
   refine qB (fun h=>?_) fun h=>?_
   ·refine qB (fun h2=>?_) fun h2=>?_
    ·rw [eB (by simp;omega),List.getElem_take] at hi3
     have hcm:=TagD.cmp k.tags[i] t
     simp only [TagD.cs,go_sem] at hcm
     refine qX ?_
     refine qD [0,1,2,3,4,5,6] ?_
     refine⟨qC,ac 400 ?_⟩
     try simp (disch:=omega) only [go_sem,seval,hcm]
     refine qB (fun h3=>?_) fun h3=>?_
     ·rw [decide_eq_true h3,Bool.true_or] at hi3
      subst hi3
      refine qX ?_
      exact qF (qI 0 2)
     rw [decide_eq_false h3,Bool.false_or] at hi3
     exact qN hN (i+1) (qI 0 4) (by (try dsimp only);exact⟨by omega,by omega,hi3⟩)
    rw [d7 (by simp;omega)] at hi3
    subst hi3
    refine qX ?_
    exact qF (qI 0 2)
   rw [d7 (by simp;omega)] at hi3
   subst hi3
   refine qX ?_
   exact qF (qI 0 2)
  have hR':R=(k.tags.take 300).any (fun u=>decide (u=t)):=by rw [hR,ht];simp [b1',b2]
  refine qX ?_
  refine an 2 hE (fun s (i:Nat)=>s.at (qU [0,2,4,1,6,35]) [(5,.sc (.int .i64 (i:Nat)))] (s.hp)) (fun (i:Nat)=>i≤k.tags.length∧i≤300∧((k.tags.take 300).drop i).any (fun u=>decide (u=t))=R) (fun (i:Nat)=>k.tags.length - i) 0 (qI 0 4) (qC) (⟨Nat.zero_le _,Nat.zero_le _,by rw [hR'];rfl⟩) (af (by rfl) (by rfl) ?_) fun i hi N hN=>?_
  ·exact qY
  obtain⟨hi1,hi2,hi3⟩:=hi
  refine qR ?_
  refine qB (fun h=>?_) fun h=>?_
  ·refine qB (fun h2=>?_) fun h2=>?_
   ·rw [eB (by simp;omega),List.getElem_take] at hi3
    have hcm:=TagD.cmp k.tags[i] t
    simp only [TagD.cs,go_sem] at hcm
    refine qX ?_
    refine qD [0,1,2,3,4,5,6] ?_
    refine⟨qC,ac 400 ?_⟩
    try simp (disch:=omega) only [go_sem,seval,hcm]
    refine qB (fun h3=>?_) fun h3=>?_
    ·rw [decide_eq_true h3,Bool.true_or] at hi3
     subst hi3
     refine qX ?_
     exact qF (qI 0 2)
    rw [decide_eq_false h3,Bool.false_or] at hi3
    exact qN hN (i+1) (qI 0 4) (by (try dsimp only);exact⟨by omega,by omega,hi3⟩)
   rw [d7 (by simp;omega)] at hi3
   subst hi3
   refine qX ?_
   exact qF (qI 0 2)
  rw [d7 (by simp;omega)] at hi3
  subst hi3
  refine qX ?_
  exact qF (qI 0 2)
 have b1':=of_decide_eq_true b1
 have hR':R=true:=by rw [hR,ht];simp [b1']
 subst hR'
 refine qX ?_
 exact qF (qI 0 2)
theorem na (k:KnownD) (t:TagD) (h0:k.keys.length≤1048576) (h1:k.tags.length≤1048576):ae Tryz.prog 126 [.ag (k.cs 0),.ag t.cs] (k.hp false) (.sc (.bo (fU k t))) (k.hp false):=by
 obtain⟨R,hR⟩:∃ R,R=fU k t:=⟨_,rfl⟩
 rw [←hR]
 rw [fU] at hR
 have hcmp:=TagD.cmp t jy
 simp only [TagD.cs,jy,go_sem] at hcmp
 have ht:jy=⟨0,0,0,0,0⟩:=rfl
 refine qE Tryz.func126 Tryz.ntmps126 Tryz.results126 fun E hE=>?_
 try simp (disch:=omega) only [go_sem,seval,hcmp]
 refine qB (fun b1=>?_) fun b1=>?_
 ·have b1':=of_decide_eq_false b1
  refine qK (fF k.keys t.one h0) (qI 0 1) ?_
  refine qB (fun b2=>?_) fun b2=>?_
  ·refine qK (fF k.keys t.two h0) (qI 0 1) ?_
   refine qB (fun b3=>?_) fun b3=>?_
   ·have hR':R=true:=by rw [hR];simp [b2,b3]
    subst hR'
    refine qX ?_
    exact qF (qI 0 2)
   have hR':R=(k.tags.take 300).any (fun u=>decide (u=t)):=by rw [hR,ht];simp [b1',b2,b3]
   refine qX ?_
   refine an 2 hE (fun s (i:Nat)=>s.at (qU [0,2,4,1,6,35]) [(5,.sc (.int .i64 (i:Nat)))] (s.hp)) (fun (i:Nat)=>i≤k.tags.length∧i≤300∧((k.tags.take 300).drop i).any (fun u=>decide (u=t))=R) (fun (i:Nat)=>k.tags.length - i) 0 (qI 0 4) (qC) (⟨Nat.zero_le _,Nat.zero_le _,by rw [hR'];rfl⟩) (af (by rfl) (by rfl) ?_) fun i hi N hN=>?_
   ·exact qY
   obtain⟨hi1,hi2,hi3⟩:=hi
   refine qR ?_
   refine qB (fun h=>?_) fun h=>?_
   ·refine qB (fun h2=>?_) fun h2=>?_
    ·rw [eB (by simp;omega),List.getElem_take] at hi3
     have hcm:=TagD.cmp k.tags[i] t
     simp only [TagD.cs,go_sem] at hcm
     refine qX ?_
     refine qD [0,1,2,3,4,5,6] ?_
     refine⟨qC,ac 400 ?_⟩
     try simp (disch:=omega) only [go_sem,seval,hcm]
     refine qB (fun h3=>?_) fun h3=>?_
     ·rw [decide_eq_true h3,Bool.true_or] at hi3
      subst hi3
      refine qX ?_
      exact qF (qI 0 2)
     rw [decide_eq_false h3,Bool.false_or] at hi3
     exact qN hN (i+1) (qI 0 4) (by (try dsimp only);exact⟨by omega,by omega,hi3⟩)
    rw [d7 (by simp;omega)] at hi3
    subst hi3
    refine qX ?_
    exact qF (qI 0 2)
   rw [d7 (by simp;omega)] at hi3
   subst hi3
   refine qX ?_
   exact qF (qI 0 2)
  have hR':R=(k.tags.take 300).any (fun u=>decide (u=t)):=by rw [hR,ht];simp [b1',b2]
  refine qX ?_
  refine an 2 hE (fun s (i:Nat)=>s.at (qU [0,2,4,1,6,35]) [(5,.sc (.int .i64 (i:Nat)))] (s.hp)) (fun (i:Nat)=>i≤k.tags.length∧i≤300∧((k.tags.take 300).drop i).any (fun u=>decide (u=t))=R) (fun (i:Nat)=>k.tags.length - i) 0 (qI 0 4) (qC) (⟨Nat.zero_le _,Nat.zero_le _,by rw [hR'];rfl⟩) (af (by rfl) (by rfl) ?_) fun i hi N hN=>?_
  ·exact qY
  obtain⟨hi1,hi2,hi3⟩:=hi
  refine qR ?_
  refine qB (fun h=>?_) fun h=>?_
  ·refine qB (fun h2=>?_) fun h2=>?_
   ·rw [eB (by simp;omega),List.getElem_take] at hi3
    have hcm:=TagD.cmp k.tags[i] t
    simp only [TagD.cs,go_sem] at hcm
    refine qX ?_
    refine qD [0,1,2,3,4,5,6] ?_
    refine⟨qC,ac 400 ?_⟩
    try simp (disch:=omega) only [go_sem,seval,hcm]
    refine qB (fun h3=>?_) fun h3=>?_
    ·rw [decide_eq_true h3,Bool.true_or] at hi3
     subst hi3
     refine qX ?_
     exact qF (qI 0 2)
    rw [decide_eq_false h3,Bool.false_or] at hi3
    exact qN hN (i+1) (qI 0 4) (by (try dsimp only);exact⟨by omega,by omega,hi3⟩)
   rw [d7 (by simp;omega)] at hi3
   subst hi3
   refine qX ?_
   exact qF (qI 0 2)
  rw [d7 (by simp;omega)] at hi3
  subst hi3
  refine qX ?_
  exact qF (qI 0 2)
 have b1':=of_decide_eq_true b1
 have hR':R=true:=by rw [hR,ht];simp [b1']
 subst hR'
 refine qX ?_
 exact qF (qI 0 2)
theorem eV (l:List LetterD) (hl:l.length≤1048576):ae Tryz.prog 141 [.sc (.sl 0 0 l.length)] [some ⟨l.map LetterD.cs,19,91,false,true⟩] (.sc (.sl 1 0 l.length)) [some ⟨l.map LetterD.cs,19,91,false,true⟩,some ⟨l.map LetterD.cs,19,91,true,true⟩]:=by
 refine qE Tryz.func141 Tryz.ntmps141 Tryz.results141 fun E hE=>?_
 exact qF (qI 0 1++qI 2 1)
theorem kA (k:KnownD) (h0:k.keys.length≤1048576) (h1:k.tags.length≤1048576):ae Tryz.prog 142 [.ag (k.cs 0)] (k.hp false) (.ag (k.cs 2)) (k.hp false++k.hp true):=by
 refine qE Tryz.func142 Tryz.ntmps142 Tryz.results142 fun E hE=>?_
 refine aT [(2,3)] [[0,1,4,5,2,3,6,7,8],[0,1,4,5,3,2,6,7,8]] (by kernel_rfl) (qC) (by kernel_rfl) ?_
 simp only [aQ]
 refine⟨aa 400 ?_,aa 400 ?_⟩
 all_goals simp (disch:=omega) only [go_sem,seval]
 ·refine az (cv k.keys h0) (qI 0 1) ?_
  refine qG ?_
  exact qF (qI 0 2++qI 4 1++qI 6 1)
 refine az (cv k.keys h0) (qI 0 1) ?_
 refine qG ?_
 exact qF (qI 0 2++qI 5 2)
theorem z2 (l:List TagD) (h:TagD):l.map TagD.cs++[h.cs]=(l++[h]).map TagD.cs:=by simp
theorem z3 {k:KnownD} {t:TagD} (h:fU k t=false) (h2:k.tags.length < 300):dY k t={ k with tags:=k.tags++[t] }:=if_pos ⟨h,h2⟩
theorem xP {k:KnownD} {t:TagD} (h:fU k t=true):dY k t=k:=if_neg (by simp [h])
theorem xQ {k:KnownD} {t:TagD} (h2:¬ k.tags.length < 300):dY k t=k:=if_neg (fun h=>h2 h.2)
theorem ru (k:KnownD) (t:TagD) (h0:k.keys.length≤1048576) (h1:k.tags.length≤1048576):ae Tryz.prog 247 [.ag (k.cs 0),.ag t.cs] (k.hp false) (.ag ((dY k t).cs 2)) (k.hp false++(dY k t).hp true):=by
 have hM:=m_ k t h0 h1
 have ht:=z3 (k:=k) (t:=t)
 have hf1:=xP (k:=k) (t:=t)
 have hf2:=xQ (k:=k) (t:=t)
 generalize dY k t=R at*
 refine qE Tryz.func247 Tryz.ntmps247 Tryz.results247 fun E hE=>?_
 refine qK (kA k h0 h1) (qI 0 2) ?_
 refine qK (hM) (qI 0 2) ?_
 refine qB (fun b1=>?_) fun b1=>?_
 ·refine qB (fun b2=>?_) fun b2=>?_
  ·rw [ht b1 (by omega)]
   have e:=z2 k.tags t
   simp only [TagD.cs] at e
   try simp (disch:=omega) only [go_sem,seval,e]
   refine ah (qI 0 2++qI 5 1++qI 9 1) (qC) _ (by simp only [go_sem];rfl) (by rfl) (by rfl) ?_
   simp (disch:=omega) only [go_sem,seval]
   try simp
  rw [hf2 (by omega)]
  refine qX ?_
  exact qF (qI 0 2++qI 5 2)
 rw [hf1 b1]
 refine qX ?_
 exact qF (qI 0 2++qI 5 2)
end
section
open Go.RowKit
def c7 (x:WorldD) (p0 p1 p2 p3 p4 p5 p6 p7 p8 p9 p10 p11 p12 p13 p14 p15 p16 p17 p18 p19 p20:Nat):List Sc:=[.int .i64 x.a.side,.int .i64 x.a.state,.int .i64 x.a.key,.int .i64 x.a.peer,.int .i64 x.a.policy.kind,.int .i64 x.a.policy.many,.sl p0 0 x.a.own.length,.sl p1 0 x.a.far.length,.sl p2 0 x.a.subs.length,.sl p3 0 x.a.halfs.length,.int .i64 x.a.bucket.rate,.int .i64 x.a.bucket.burst,.int .i64 x.a.bucket.cur,.st x.a.out.text,.int .i64 x.a.out.base,.int .i64 x.a.out.sent,.int .i64 x.a.out.room,.int .i64 x.a.inp.read,.st x.a.inp.ready,.sl p4 0 x.a.inp.list.length,.sl p5 0 x.a.done.length,.sl p6 0 x.a.over.length,.int .i64 x.a.draw,.int .i64 x.a.now,.int .i64 x.a.pick,.int .i64 x.b.side,.int .i64 x.b.state,.int .i64 x.b.key,.int .i64 x.b.peer,.int .i64 x.b.policy.kind,.int .i64 x.b.policy.many,.sl p7 0 x.b.own.length,.sl p8 0 x.b.far.length,.sl p9 0 x.b.subs.length,.sl p10 0 x.b.halfs.length,.int .i64 x.b.bucket.rate,.int .i64 x.b.bucket.burst,.int .i64 x.b.bucket.cur,.st x.b.out.text,.int .i64 x.b.out.base,.int .i64 x.b.out.sent,.int .i64 x.b.out.room,.int .i64 x.b.inp.read,.st x.b.inp.ready,.sl p11 0 x.b.inp.list.length,.sl p12 0 x.b.done.length,.sl p13 0 x.b.over.length,.int .i64 x.b.draw,.int .i64 x.b.now,.int .i64 x.b.pick,.sl p14 0 x.bag.length,.sl p15 0 x.past.length,.st x.wroteA,.st x.wroteB,.st x.readA,.st x.readB,.sl p16 0 x.known.keys.length,.sl p17 0 x.known.tags.length,.sl p18 0 x.nums.length,.sl p19 0 x.answersA.length,.sl p20 0 x.answersB.length]
attribute [go_sem] c7
structure SmallW (w:WorldD):Prop where
 a:Small w.a
 b:Small w.b
 bag:w.bag.length≤1048576
 past:w.past.length≤1048576
 keys:w.known.keys.length≤1048576
 tags:w.known.tags.length≤1048576
 nums:w.nums.length≤1048576
 ansA:w.answersA.length≤1048576
 ansB:w.answersB.length≤1048576
theorem rv (k:KnownD) (t:TagD) (h0:k.keys.length≤1048576) (h1:k.tags.length≤1048576):ae Tryz.prog 218 [.ag (k.cs 0),.ag t.cs] (k.hp false) (.ag ((dY k t).cs 2)) (k.hp false++(dY k t).hp true):=by
 have hM:=na k t h0 h1
 have ht:=z3 (k:=k) (t:=t)
 have hf1:=xP (k:=k) (t:=t)
 have hf2:=xQ (k:=k) (t:=t)
 generalize dY k t=R at*
 refine qE Tryz.func218 Tryz.ntmps218 Tryz.results218 fun E hE=>?_
 refine aI [(0,6),(0,4),(0,9),(3,6),(3,4),(3,9),(4,9),(7,9),(9,6),(4,6)] [(0,3),(3,7),(4,7),(6,7)] [[1,2,5,0,3,4,6,7,8,9,10],[1,2,5,0,3,6,4,7,8,9,10],[1,2,5,0,3,4,9,6,7,8,10],[1,2,5,0,3,4,6,9,7,8,10],[1,2,5,0,3,6,4,9,7,8,10],[1,2,5,0,3,9,4,6,7,8,10],[1,2,5,0,3,9,6,4,7,8,10],[1,2,5,0,3,6,9,4,7,8,10],[1,2,5,0,9,3,4,6,7,8,10],[1,2,5,0,9,3,6,4,7,8,10],[1,2,5,0,4,3,6,7,8,9,10],[1,2,5,0,4,3,9,6,7,8,10],[1,2,5,0,4,3,6,9,7,8,10],[1,2,5,0,4,9,3,6,7,8,10],[1,2,5,0,9,4,3,6,7,8,10],[1,2,5,0,6,3,4,7,8,9,10],[1,2,5,0,6,3,4,9,7,8,10],[1,2,5,0,6,3,9,4,7,8,10],[1,2,5,0,9,6,3,4,7,8,10],[1,2,5,0,6,9,3,4,7,8,10],[1,2,5,0,4,6,3,7,8,9,10],[1,2,5,0,6,4,3,7,8,9,10],[1,2,5,0,4,6,3,9,7,8,10],[1,2,5,0,6,4,3,9,7,8,10],[1,2,5,0,4,9,6,3,7,8,10],[1,2,5,0,4,6,9,3,7,8,10],[1,2,5,0,6,4,9,3,7,8,10],[1,2,5,0,9,4,6,3,7,8,10],[1,2,5,0,9,6,4,3,7,8,10],[1,2,5,0,6,9,4,3,7,8,10],[1,2,5,9,0,3,4,6,7,8,10],[1,2,5,9,0,3,6,4,7,8,10],[1,2,5,9,0,4,3,6,7,8,10],[1,2,5,9,0,6,3,4,7,8,10],[1,2,5,9,0,4,6,3,7,8,10],[1,2,5,9,0,6,4,3,7,8,10],[1,2,5,4,0,3,6,7,8,9,10],[1,2,5,4,0,3,9,6,7,8,10],[1,2,5,4,0,3,6,9,7,8,10],[1,2,5,4,0,9,3,6,7,8,10],[1,2,5,4,0,6,3,7,8,9,10],[1,2,5,4,0,6,3,9,7,8,10],[1,2,5,4,0,9,6,3,7,8,10],[1,2,5,4,0,6,9,3,7,8,10],[1,2,5,4,9,0,3,6,7,8,10],[1,2,5,9,4,0,3,6,7,8,10],[1,2,5,4,9,0,6,3,7,8,10],[1,2,5,9,4,0,6,3,7,8,10],[1,2,5,6,0,3,4,7,8,9,10],[1,2,5,6,0,3,4,9,7,8,10],[1,2,5,6,0,3,9,4,7,8,10],[1,2,5,6,0,9,3,4,7,8,10],[1,2,5,6,0,4,3,7,8,9,10],[1,2,5,6,0,4,3,9,7,8,10],[1,2,5,6,0,4,9,3,7,8,10],[1,2,5,6,0,9,4,3,7,8,10],[1,2,5,9,6,0,3,4,7,8,10],[1,2,5,6,9,0,3,4,7,8,10],[1,2,5,9,6,0,4,3,7,8,10],[1,2,5,6,9,0,4,3,7,8,10],[1,2,5,4,6,0,3,7,8,9,10],[1,2,5,6,4,0,3,7,8,9,10],[1,2,5,4,6,0,3,9,7,8,10],[1,2,5,6,4,0,3,9,7,8,10],[1,2,5,4,6,0,9,3,7,8,10],[1,2,5,6,4,0,9,3,7,8,10],[1,2,5,4,9,6,0,3,7,8,10],[1,2,5,4,6,9,0,3,7,8,10],[1,2,5,6,4,9,0,3,7,8,10],[1,2,5,9,4,6,0,3,7,8,10],[1,2,5,9,6,4,0,3,7,8,10],[1,2,5,6,9,4,0,3,7,8,10]] 2 hE (fun s=>s.at (qU [6,9]) [(5,.sc (.pt 7 0 0))] (s.hp++[some ⟨k.keys.map aC,1,3,true,true⟩,some ⟨k.tags.map TagD.cs,5,89,true,true⟩,some ⟨[[.sl 5 0 k.keys.length,.sl 6 0 k.tags.length]],2,49,true,false⟩])) (by kernel_rfl) (qC) (by kernel_rfl) ?_ ?_
 ·simp only [aQ]
  refine⟨aa 400 ?_,aa 400 ?_,aa 400 ?_,aa 400 ?_,aa 400 ?_,aa 400 ?_,aa 400 ?_,aa 400 ?_,aa 400 ?_,aa 400 ?_,aa 400 ?_,aa 400 ?_,aa 400 ?_,aa 400 ?_,aa 400 ?_,aa 400 ?_,aa 400 ?_,aa 400 ?_,aa 400 ?_,aa 400 ?_,aa 400 ?_,aa 400 ?_,aa 400 ?_,aa 400 ?_,aa 400 ?_,aa 400 ?_,aa 400 ?_,aa 400 ?_,aa 400 ?_,aa 400 ?_,aa 400 ?_,aa 400 ?_,aa 400 ?_,aa 400 ?_,aa 400 ?_,aa 400 ?_,aa 400 ?_,aa 400 ?_,aa 400 ?_,aa 400 ?_,aa 400 ?_,aa 400 ?_,aa 400 ?_,aa 400 ?_,aa 400 ?_,aa 400 ?_,aa 400 ?_,aa 400 ?_,aa 400 ?_,aa 400 ?_,aa 400 ?_,aa 400 ?_,aa 400 ?_,aa 400 ?_,aa 400 ?_,aa 400 ?_,aa 400 ?_,aa 400 ?_,aa 400 ?_,aa 400 ?_,aa 400 ?_,aa 400 ?_,aa 400 ?_,aa 400 ?_,aa 400 ?_,aa 400 ?_,aa 400 ?_,aa 400 ?_,aa 400 ?_,aa 400 ?_,aa 400 ?_,aa 400 ?_⟩
  ·simp (disch:=omega) only [go_sem,seval]
   refine⟨qC,(qI 0 5++qI 6 1++qI 8 2),ab (by rfl) (by rfl) ?_⟩
   try simp (disch:=omega) only [go_sem,seval]
  ·simp (disch:=omega) only [go_sem,seval]
   refine⟨qC,(qI 0 5++qI 6 1++qI 8 2),ab (by rfl) (by rfl) ?_⟩
   try simp (disch:=omega) only [go_sem,seval]
  ·simp (disch:=omega) only [go_sem,seval]
   refine⟨qC,(qI 0 5++qI 6 1++qI 9 1++qI 8 1),ab (by rfl) (by rfl) ?_⟩
   try simp (disch:=omega) only [go_sem,seval]
  ·simp (disch:=omega) only [go_sem,seval]
   refine⟨qC,(qI 0 5++qI 6 1++qI 9 1++qI 8 1),ab (by rfl) (by rfl) ?_⟩
   try simp (disch:=omega) only [go_sem,seval]
  ·simp (disch:=omega) only [go_sem,seval]
   refine⟨qC,(qI 0 5++qI 6 1++qI 9 1++qI 8 1),ab (by rfl) (by rfl) ?_⟩
   try simp (disch:=omega) only [go_sem,seval]
  ·simp (disch:=omega) only [go_sem,seval]
   refine⟨qC,(qI 0 5++qI 6 1++qI 9 1++qI 7 1),ab (by rfl) (by rfl) ?_⟩
   try simp (disch:=omega) only [go_sem,seval]
  ·simp (disch:=omega) only [go_sem,seval]
   refine⟨qC,(qI 0 5++qI 6 1++qI 9 1++qI 7 1),ab (by rfl) (by rfl) ?_⟩
   try simp (disch:=omega) only [go_sem,seval]
  ·simp (disch:=omega) only [go_sem,seval]
   refine⟨qC,(qI 0 5++qI 6 1++qI 9 1++qI 7 1),ab (by rfl) (by rfl) ?_⟩
   try simp (disch:=omega) only [go_sem,seval]
  ·simp (disch:=omega) only [go_sem,seval]
   refine⟨qC,(qI 0 5++qI 7 1++qI 9 1++qI 6 1),ab (by rfl) (by rfl) ?_⟩
   try simp (disch:=omega) only [go_sem,seval]
  ·simp (disch:=omega) only [go_sem,seval]
   refine⟨qC,(qI 0 5++qI 7 1++qI 9 1++qI 6 1),ab (by rfl) (by rfl) ?_⟩
   try simp (disch:=omega) only [go_sem,seval]
  ·simp (disch:=omega) only [go_sem,seval]
   refine⟨qC,(qI 0 5++qI 7 3),ab (by rfl) (by rfl) ?_⟩
   try simp (disch:=omega) only [go_sem,seval]
  ·simp (disch:=omega) only [go_sem,seval]
   refine⟨qC,(qI 0 5++qI 7 1++qI 9 1++qI 8 1),ab (by rfl) (by rfl) ?_⟩
   try simp (disch:=omega) only [go_sem,seval]
  ·simp (disch:=omega) only [go_sem,seval]
   refine⟨qC,(qI 0 5++qI 7 1++qI 9 1++qI 8 1),ab (by rfl) (by rfl) ?_⟩
   try simp (disch:=omega) only [go_sem,seval]
  ·simp (disch:=omega) only [go_sem,seval]
   refine⟨qC,(qI 0 5++qI 8 2++qI 7 1),ab (by rfl) (by rfl) ?_⟩
   try simp (disch:=omega) only [go_sem,seval]
  ·simp (disch:=omega) only [go_sem,seval]
   refine⟨qC,(qI 0 5++qI 8 2++qI 6 1),ab (by rfl) (by rfl) ?_⟩
   try simp (disch:=omega) only [go_sem,seval]
  ·simp (disch:=omega) only [go_sem,seval]
   refine⟨qC,(qI 0 5++qI 6 1++qI 8 2),ab (by rfl) (by rfl) ?_⟩
   try simp (disch:=omega) only [go_sem,seval]
  ·simp (disch:=omega) only [go_sem,seval]
   refine⟨qC,(qI 0 5++qI 6 1++qI 9 1++qI 8 1),ab (by rfl) (by rfl) ?_⟩
   try simp (disch:=omega) only [go_sem,seval]
  ·simp (disch:=omega) only [go_sem,seval]
   refine⟨qC,(qI 0 5++qI 6 1++qI 9 1++qI 7 1),ab (by rfl) (by rfl) ?_⟩
   try simp (disch:=omega) only [go_sem,seval]
  ·simp (disch:=omega) only [go_sem,seval]
   refine⟨qC,(qI 0 5++qI 7 1++qI 9 1++qI 6 1),ab (by rfl) (by rfl) ?_⟩
   try simp (disch:=omega) only [go_sem,seval]
  ·simp (disch:=omega) only [go_sem,seval]
   refine⟨qC,(qI 0 5++qI 7 1++qI 9 1++qI 6 1),ab (by rfl) (by rfl) ?_⟩
   try simp (disch:=omega) only [go_sem,seval]
  ·simp (disch:=omega) only [go_sem,seval]
   refine⟨qC,(qI 0 5++qI 7 3),ab (by rfl) (by rfl) ?_⟩
   try simp (disch:=omega) only [go_sem,seval]
  ·simp (disch:=omega) only [go_sem,seval]
   refine⟨qC,(qI 0 5++qI 7 3),ab (by rfl) (by rfl) ?_⟩
   try simp (disch:=omega) only [go_sem,seval]
  ·simp (disch:=omega) only [go_sem,seval]
   refine⟨qC,(qI 0 5++qI 7 1++qI 9 1++qI 8 1),ab (by rfl) (by rfl) ?_⟩
   try simp (disch:=omega) only [go_sem,seval]
  ·simp (disch:=omega) only [go_sem,seval]
   refine⟨qC,(qI 0 5++qI 7 1++qI 9 1++qI 8 1),ab (by rfl) (by rfl) ?_⟩
   try simp (disch:=omega) only [go_sem,seval]
  ·simp (disch:=omega) only [go_sem,seval]
   refine⟨qC,(qI 0 5++qI 8 2++qI 7 1),ab (by rfl) (by rfl) ?_⟩
   try simp (disch:=omega) only [go_sem,seval]
  ·simp (disch:=omega) only [go_sem,seval]
   refine⟨qC,(qI 0 5++qI 8 2++qI 7 1),ab (by rfl) (by rfl) ?_⟩
   try simp (disch:=omega) only [go_sem,seval]
  ·simp (disch:=omega) only [go_sem,seval]
   refine⟨qC,(qI 0 5++qI 8 2++qI 7 1),ab (by rfl) (by rfl) ?_⟩
   try simp (disch:=omega) only [go_sem,seval]
  ·simp (disch:=omega) only [go_sem,seval]
   refine⟨qC,(qI 0 5++qI 8 2++qI 6 1),ab (by rfl) (by rfl) ?_⟩
   try simp (disch:=omega) only [go_sem,seval]
  ·simp (disch:=omega) only [go_sem,seval]
   refine⟨qC,(qI 0 5++qI 8 2++qI 6 1),ab (by rfl) (by rfl) ?_⟩
   try simp (disch:=omega) only [go_sem,seval]
  ·simp (disch:=omega) only [go_sem,seval]
   refine⟨qC,(qI 0 5++qI 8 2++qI 6 1),ab (by rfl) (by rfl) ?_⟩
   try simp (disch:=omega) only [go_sem,seval]
  ·simp (disch:=omega) only [go_sem,seval]
   refine⟨qC,(qI 0 5++qI 7 1++qI 9 1++qI 5 1),ab (by rfl) (by rfl) ?_⟩
   try simp (disch:=omega) only [go_sem,seval]
  ·simp (disch:=omega) only [go_sem,seval]
   refine⟨qC,(qI 0 5++qI 7 1++qI 9 1++qI 5 1),ab (by rfl) (by rfl) ?_⟩
   try simp (disch:=omega) only [go_sem,seval]
  ·simp (disch:=omega) only [go_sem,seval]
   refine⟨qC,(qI 0 5++qI 8 2++qI 5 1),ab (by rfl) (by rfl) ?_⟩
   try simp (disch:=omega) only [go_sem,seval]
  ·simp (disch:=omega) only [go_sem,seval]
   refine⟨qC,(qI 0 5++qI 7 1++qI 9 1++qI 5 1),ab (by rfl) (by rfl) ?_⟩
   try simp (disch:=omega) only [go_sem,seval]
  ·simp (disch:=omega) only [go_sem,seval]
   refine⟨qC,(qI 0 5++qI 8 2++qI 5 1),ab (by rfl) (by rfl) ?_⟩
   try simp (disch:=omega) only [go_sem,seval]
  ·simp (disch:=omega) only [go_sem,seval]
   refine⟨qC,(qI 0 5++qI 8 2++qI 5 1),ab (by rfl) (by rfl) ?_⟩
   try simp (disch:=omega) only [go_sem,seval]
  ·simp (disch:=omega) only [go_sem,seval]
   refine⟨qC,(qI 0 5++qI 7 3),ab (by rfl) (by rfl) ?_⟩
   try simp (disch:=omega) only [go_sem,seval]
  ·simp (disch:=omega) only [go_sem,seval]
   refine⟨qC,(qI 0 5++qI 7 1++qI 9 1++qI 8 1),ab (by rfl) (by rfl) ?_⟩
   try simp (disch:=omega) only [go_sem,seval]
  ·simp (disch:=omega) only [go_sem,seval]
   refine⟨qC,(qI 0 5++qI 7 1++qI 9 1++qI 8 1),ab (by rfl) (by rfl) ?_⟩
   try simp (disch:=omega) only [go_sem,seval]
  ·simp (disch:=omega) only [go_sem,seval]
   refine⟨qC,(qI 0 5++qI 8 2++qI 7 1),ab (by rfl) (by rfl) ?_⟩
   try simp (disch:=omega) only [go_sem,seval]
  ·simp (disch:=omega) only [go_sem,seval]
   refine⟨qC,(qI 0 5++qI 7 3),ab (by rfl) (by rfl) ?_⟩
   try simp (disch:=omega) only [go_sem,seval]
  ·simp (disch:=omega) only [go_sem,seval]
   refine⟨qC,(qI 0 5++qI 7 1++qI 9 1++qI 8 1),ab (by rfl) (by rfl) ?_⟩
   try simp (disch:=omega) only [go_sem,seval]
  ·simp (disch:=omega) only [go_sem,seval]
   refine⟨qC,(qI 0 5++qI 8 2++qI 7 1),ab (by rfl) (by rfl) ?_⟩
   try simp (disch:=omega) only [go_sem,seval]
  ·simp (disch:=omega) only [go_sem,seval]
   refine⟨qC,(qI 0 5++qI 8 2++qI 7 1),ab (by rfl) (by rfl) ?_⟩
   try simp (disch:=omega) only [go_sem,seval]
  ·simp (disch:=omega) only [go_sem,seval]
   refine⟨qC,(qI 0 5++qI 8 2++qI 6 1),ab (by rfl) (by rfl) ?_⟩
   try simp (disch:=omega) only [go_sem,seval]
  ·simp (disch:=omega) only [go_sem,seval]
   refine⟨qC,(qI 0 5++qI 8 2++qI 5 1),ab (by rfl) (by rfl) ?_⟩
   try simp (disch:=omega) only [go_sem,seval]
  ·simp (disch:=omega) only [go_sem,seval]
   refine⟨qC,(qI 0 5++qI 8 2++qI 6 1),ab (by rfl) (by rfl) ?_⟩
   try simp (disch:=omega) only [go_sem,seval]
  ·simp (disch:=omega) only [go_sem,seval]
   refine⟨qC,(qI 0 5++qI 8 2++qI 5 1),ab (by rfl) (by rfl) ?_⟩
   try simp (disch:=omega) only [go_sem,seval]
  ·simp (disch:=omega) only [go_sem,seval]
   refine⟨qC,(qI 0 5++qI 6 1++qI 8 2),ab (by rfl) (by rfl) ?_⟩
   try simp (disch:=omega) only [go_sem,seval]
  ·simp (disch:=omega) only [go_sem,seval]
   refine⟨qC,(qI 0 5++qI 6 1++qI 9 1++qI 8 1),ab (by rfl) (by rfl) ?_⟩
   try simp (disch:=omega) only [go_sem,seval]
  ·simp (disch:=omega) only [go_sem,seval]
   refine⟨qC,(qI 0 5++qI 6 1++qI 9 1++qI 7 1),ab (by rfl) (by rfl) ?_⟩
   try simp (disch:=omega) only [go_sem,seval]
  ·simp (disch:=omega) only [go_sem,seval]
   refine⟨qC,(qI 0 5++qI 7 1++qI 9 1++qI 6 1),ab (by rfl) (by rfl) ?_⟩
   try simp (disch:=omega) only [go_sem,seval]
  ·simp (disch:=omega) only [go_sem,seval]
   refine⟨qC,(qI 0 5++qI 7 3),ab (by rfl) (by rfl) ?_⟩
   try simp (disch:=omega) only [go_sem,seval]
  ·simp (disch:=omega) only [go_sem,seval]
   refine⟨qC,(qI 0 5++qI 7 1++qI 9 1++qI 8 1),ab (by rfl) (by rfl) ?_⟩
   try simp (disch:=omega) only [go_sem,seval]
  ·simp (disch:=omega) only [go_sem,seval]
   refine⟨qC,(qI 0 5++qI 8 2++qI 7 1),ab (by rfl) (by rfl) ?_⟩
   try simp (disch:=omega) only [go_sem,seval]
  ·simp (disch:=omega) only [go_sem,seval]
   refine⟨qC,(qI 0 5++qI 8 2++qI 6 1),ab (by rfl) (by rfl) ?_⟩
   try simp (disch:=omega) only [go_sem,seval]
  ·simp (disch:=omega) only [go_sem,seval]
   refine⟨qC,(qI 0 5++qI 7 1++qI 9 1++qI 5 1),ab (by rfl) (by rfl) ?_⟩
   try simp (disch:=omega) only [go_sem,seval]
  ·simp (disch:=omega) only [go_sem,seval]
   refine⟨qC,(qI 0 5++qI 7 1++qI 9 1++qI 5 1),ab (by rfl) (by rfl) ?_⟩
   try simp (disch:=omega) only [go_sem,seval]
  ·simp (disch:=omega) only [go_sem,seval]
   refine⟨qC,(qI 0 5++qI 8 2++qI 5 1),ab (by rfl) (by rfl) ?_⟩
   try simp (disch:=omega) only [go_sem,seval]
  ·simp (disch:=omega) only [go_sem,seval]
   refine⟨qC,(qI 0 5++qI 8 2++qI 5 1),ab (by rfl) (by rfl) ?_⟩
   try simp (disch:=omega) only [go_sem,seval]
  ·simp (disch:=omega) only [go_sem,seval]
   refine⟨qC,(qI 0 5++qI 7 3),ab (by rfl) (by rfl) ?_⟩
   try simp (disch:=omega) only [go_sem,seval]
  ·simp (disch:=omega) only [go_sem,seval]
   refine⟨qC,(qI 0 5++qI 7 3),ab (by rfl) (by rfl) ?_⟩
   try simp (disch:=omega) only [go_sem,seval]
  ·simp (disch:=omega) only [go_sem,seval]
   refine⟨qC,(qI 0 5++qI 7 1++qI 9 1++qI 8 1),ab (by rfl) (by rfl) ?_⟩
   try simp (disch:=omega) only [go_sem,seval]
  ·simp (disch:=omega) only [go_sem,seval]
   refine⟨qC,(qI 0 5++qI 7 1++qI 9 1++qI 8 1),ab (by rfl) (by rfl) ?_⟩
   try simp (disch:=omega) only [go_sem,seval]
  ·simp (disch:=omega) only [go_sem,seval]
   refine⟨qC,(qI 0 5++qI 8 2++qI 7 1),ab (by rfl) (by rfl) ?_⟩
   try simp (disch:=omega) only [go_sem,seval]
  ·simp (disch:=omega) only [go_sem,seval]
   refine⟨qC,(qI 0 5++qI 8 2++qI 7 1),ab (by rfl) (by rfl) ?_⟩
   try simp (disch:=omega) only [go_sem,seval]
  ·simp (disch:=omega) only [go_sem,seval]
   refine⟨qC,(qI 0 5++qI 8 2++qI 6 1),ab (by rfl) (by rfl) ?_⟩
   try simp (disch:=omega) only [go_sem,seval]
  ·simp (disch:=omega) only [go_sem,seval]
   refine⟨qC,(qI 0 5++qI 8 2++qI 6 1),ab (by rfl) (by rfl) ?_⟩
   try simp (disch:=omega) only [go_sem,seval]
  ·simp (disch:=omega) only [go_sem,seval]
   refine⟨qC,(qI 0 5++qI 8 2++qI 6 1),ab (by rfl) (by rfl) ?_⟩
   try simp (disch:=omega) only [go_sem,seval]
  ·simp (disch:=omega) only [go_sem,seval]
   refine⟨qC,(qI 0 5++qI 8 2++qI 5 1),ab (by rfl) (by rfl) ?_⟩
   try simp (disch:=omega) only [go_sem,seval]
  ·simp (disch:=omega) only [go_sem,seval]
   refine⟨qC,(qI 0 5++qI 8 2++qI 5 1),ab (by rfl) (by rfl) ?_⟩
   try simp (disch:=omega) only [go_sem,seval]
  simp (disch:=omega) only [go_sem,seval]
  refine⟨qC,(qI 0 5++qI 8 2++qI 5 1),ab (by rfl) (by rfl) ?_⟩
  try simp (disch:=omega) only [go_sem,seval]
 refine qR ?_
 refine qK (hM) (qI 0 2) ?_
 refine qB (fun b1=>?_) fun b1=>?_
 ·refine qB (fun b2=>?_) fun b2=>?_
  ·rw [ht b1 (by omega)]
   have e:=z2 k.tags t
   simp only [TagD.cs] at e
   try simp (disch:=omega) only [go_sem,seval,e]
   refine ah (qI 0 2++qI 5 1++qI 9 1) (qC) _ (by simp only [go_sem];rfl) (by rfl) (by rfl) ?_
   simp (disch:=omega) only [go_sem,seval]
   try simp
  rw [hf2 (by omega)]
  refine qX ?_
  exact qF (qI 0 2++qI 5 2)
 rw [hf1 b1]
 refine qX ?_
 exact qF (qI 0 2++qI 5 2)
theorem kB (w:WorldD) (hs:SmallW w):ae Tryz.prog 67 [.ag (w.cs 0)] (w.hp false) (.ag (w.cs 21)) (w.hp false++w.hp true):=by
 have ha:=hs.a
 have hb:=hs.b
 refine qE Tryz.func67 Tryz.ntmps67 Tryz.results67 fun E hE=>?_
 refine qK (aK w.a (by have:=ha.own;omega) (by have:=ha.far;omega) (by have:=ha.subs;omega) (by have:=ha.halfs;omega) (by have:=ha.list;omega) (by have:=ha.done;omega) (by have:=ha.over;omega)) (qI 0 7) ?_
 refine qK (aK w.b (by have:=hb.own;omega) (by have:=hb.far;omega) (by have:=hb.subs;omega) (by have:=hb.halfs;omega) (by have:=hb.list;omega) (by have:=hb.done;omega) (by have:=hb.over;omega)) (qI 7 7) ?_
 refine qK (eV w.bag hs.bag) (qI 14 1) ?_
 refine qK (eV w.past hs.past) (qI 15 1) ?_
 refine qK (kA w.known hs.keys hs.tags) (qI 16 2) ?_
 refine qK (cv w.nums hs.nums) (qI 18 1) ?_
 refine qK (cv w.answersA hs.ansA) (qI 19 1) ?_
 refine qK (cv w.answersB hs.ansB) (qI 20 1) ?_
 exact qF (qI 0 21++qI 23 21)
theorem ib (w:WorldD) (hs:SmallW w):ae Tryz.prog 53 [.ag (w.cs 0)] (w.hp false) (.ag (w.cs 21)) (w.hp false++w.hp true):=by
 have ha:=hs.a
 have hb:=hs.b
 have h1:=hs.bag
 have h2:=hs.past
 have h3:=hs.keys
 have h4:=hs.tags
 have h5:=hs.nums
 have h6:=hs.ansA
 have h7:=hs.ansB
 refine qE Tryz.func53 Tryz.ntmps53 Tryz.results53 fun E hE=>?_
 refine qK (aD w.a (by have:=ha.own;omega) (by have:=ha.far;omega) (by have:=ha.subs;omega) (by have:=ha.halfs;omega) (by have:=ha.list;omega) (by have:=ha.done;omega) (by have:=ha.over;omega)) (qI 0 7) ?_
 refine qK (aD w.b (by have:=hb.own;omega) (by have:=hb.far;omega) (by have:=hb.subs;omega) (by have:=hb.halfs;omega) (by have:=hb.list;omega) (by have:=hb.done;omega) (by have:=hb.over;omega)) (qI 7 7) ?_
 refine aI [(0,8),(0,5),(4,8),(4,5),(5,8)] [(0,4)] [(qU [1,3,6,2,0,1,4,2,8,5]),[1,2,3,6,7,0,4,8,5,9,10,11,12],[1,2,3,6,7,0,5,4,8,9,10,11,12],[1,2,3,6,7,0,8,4,5,9,10,11,12],[1,2,3,6,7,0,5,8,4,9,10,11,12],[1,2,3,6,7,0,8,5,4,9,10,11,12],[1,2,3,6,7,5,0,4,8,9,10,11,12],[1,2,3,6,7,5,0,8,4,9,10,11,12],(qU [1,3,6,3,0,1,4,2,9,4]),[1,2,3,6,7,8,0,5,4,9,10,11,12],[1,2,3,6,7,5,8,0,4,9,10,11,12],[1,2,3,6,7,8,5,0,4,9,10,11,12]] 21 hE (fun s=>s.at (qU [21,12]) [] (s.hp.set 21 (some ⟨[c7 w 23 24 25 26 27 28 29 30 31 32 33 34 35 36 38 40 41 42 18 19 20],61,51,true,false⟩)++[some ⟨w.known.keys.map aC,1,3,true,true⟩,some ⟨w.known.tags.map TagD.cs,5,89,true,true⟩])) (by kernel_rfl) (qC) (by kernel_rfl) ?_ ?_
 ·simp only [aQ]
  refine⟨aa 400 ?_,aa 400 ?_,aa 400 ?_,aa 400 ?_,aa 400 ?_,aa 400 ?_,aa 400 ?_,aa 400 ?_,aa 400 ?_,aa 400 ?_,aa 400 ?_,aa 400 ?_⟩
  ·simp (disch:=omega) only [go_sem,seval]
   refine⟨qC,(qI 0 41++qI 42 1++qI 44 1),ab (by rfl) (by rfl) ?_⟩
   try simp (disch:=omega) only [go_sem,seval]
  ·simp (disch:=omega) only [go_sem,seval]
   refine⟨qC,(qI 0 41++qI 42 1++qI 44 1),ab (by rfl) (by rfl) ?_⟩
   try simp (disch:=omega) only [go_sem,seval]
  ·simp (disch:=omega) only [go_sem,seval]
   refine⟨qC,(qI 0 41++qI 43 2),ab (by rfl) (by rfl) ?_⟩
   try simp (disch:=omega) only [go_sem,seval]
  ·simp (disch:=omega) only [go_sem,seval]
   refine⟨qC,(qI 0 41++qI 42 1++qI 44 1),ab (by rfl) (by rfl) ?_⟩
   try simp (disch:=omega) only [go_sem,seval]
  ·simp (disch:=omega) only [go_sem,seval]
   refine⟨qC,(qI 0 41++qI 43 2),ab (by rfl) (by rfl) ?_⟩
   try simp (disch:=omega) only [go_sem,seval]
  ·simp (disch:=omega) only [go_sem,seval]
   refine⟨qC,(qI 0 41++qI 43 2),ab (by rfl) (by rfl) ?_⟩
   try simp (disch:=omega) only [go_sem,seval]
  ·simp (disch:=omega) only [go_sem,seval]
   refine⟨qC,(qI 0 41++qI 43 2),ab (by rfl) (by rfl) ?_⟩
   try simp (disch:=omega) only [go_sem,seval]
  ·simp (disch:=omega) only [go_sem,seval]
   refine⟨qC,(qI 0 41++qI 43 2),ab (by rfl) (by rfl) ?_⟩
   try simp (disch:=omega) only [go_sem,seval]
  ·simp (disch:=omega) only [go_sem,seval]
   refine⟨qC,(qI 0 41++qI 42 1++qI 44 1),ab (by rfl) (by rfl) ?_⟩
   try simp (disch:=omega) only [go_sem,seval]
  ·simp (disch:=omega) only [go_sem,seval]
   refine⟨qC,(qI 0 41++qI 43 2),ab (by rfl) (by rfl) ?_⟩
   try simp (disch:=omega) only [go_sem,seval]
  ·simp (disch:=omega) only [go_sem,seval]
   refine⟨qC,(qI 0 41++qI 43 2),ab (by rfl) (by rfl) ?_⟩
   try simp (disch:=omega) only [go_sem,seval]
  simp (disch:=omega) only [go_sem,seval]
  refine⟨qC,(qI 0 41++qI 43 2),ab (by rfl) (by rfl) ?_⟩
  try simp (disch:=omega) only [go_sem,seval]
 refine qR ?_
 exact qF (qI 0 21++qI 23 14++qI 38 1++qI 40 3++qI 44 1++qI 46 1++qI 48 1)
end
section
open Go.RowKit
theorem kT (n:Int):aZ n=0∨aZ n=1∨aZ n=2:=by
 rw [aZ]
 split
 ·exact .inr (.inl rfl)
 split
 ·exact .inr (.inr rfl)
 exact .inl rfl
def el (w:WorldD) (side:Int) (e:EndD):WorldD:=if side=1 then { w with a:=e } else { w with b:=e }
def dk (l:List Int) (n:Int):List Int:=if 0 < n∧lY l n=false∧l.length < 300 then l++[n] else l
theorem zd {l:List Int} {n:Int} (h1:0 < n) (h2:lY l n=false) (h3:l.length < 300):dk l n=l++[n]:=if_pos ⟨h1,h2,h3⟩
theorem vL {l:List Int} {n:Int} (h1:¬ 0 < n):dk l n=l:=if_neg (fun h=>h1 h.1)
theorem vM {l:List Int} {n:Int} (h2:lY l n=true):dk l n=l:=if_neg (by simp [h2])
theorem vN {l:List Int} {n:Int} (h3:¬ l.length < 300):dk l n=l:=if_neg (fun h=>h3 h.2.2)
theorem d_ {l:List Int} {n:Int} (h:l.length≤1048576):(dk l n).length≤1048576:=by
 rw [dk];split
 ·rename_i hh;have:=hh.2.2;simp;omega
 exact h
def nb (l:List LetterD) (x:LetterD):List LetterD:=if l.length < 150 then l++[x] else l
def vO (l:List LetterD) (x:LetterD):List LetterD:=if l.length < 40 then l++[x] else l
def ma (l:List Int) (yes:Bool) (n:Int):List Int:=if yes=true∧l.length < 300 then l++[n] else l
theorem pw {l:List LetterD} {x:LetterD} (h:l.length < 150):nb l x=l++[x]:=if_pos h
theorem px {l:List LetterD} {x:LetterD} (h:¬ l.length < 150):nb l x=l:=if_neg h
theorem vP {l:List LetterD} {x:LetterD} (h:l.length < 40):vO l x=l++[x]:=if_pos h
theorem vQ {l:List LetterD} {x:LetterD} (h:¬ l.length < 40):vO l x=l:=if_neg h
theorem vR {l:List Int} {n:Int} (h:l.length < 300):ma l true n=l++[n]:=if_pos ⟨rfl,h⟩
theorem vS {l:List Int} {b:Bool} {n:Int} (h:¬ l.length < 300):ma l b n=l:=if_neg (fun hh=>h hh.2)
theorem iX {l:List Int} {n:Int}:ma l false n=l:=if_neg (by simp)
theorem xR {l:List LetterD} {x:LetterD} (h:l.length≤1048576):(nb l x).length≤1048576:=by
 rw [nb];split
 ·simp;omega
 exact h
theorem Nn {l:List LetterD} {x:LetterD} (h:l.length≤1048576):(vO l x).length≤1048576:=by
 rw [vO];split
 ·simp;omega
 exact h
theorem py {l:List Int} {b:Bool} {n:Int} (h:l.length≤1048576):(ma l b n).length≤1048576:=by
 rw [ma];split
 ·rename_i hh;have:=hh.2;simp;omega
 exact h
theorem kC {k:KnownD} {t:TagD} (h:k.tags.length≤1048576):(dY k t).tags.length≤1048576:=by
 rw [dY];split
 ·rename_i hh;have:=hh.2;simp;omega
 exact h
theorem iB {k:KnownD} {t:TagD}:(dY k t).keys=k.keys:=by
 rw [dY];split<;>rfl
def lj (side k:Int) (x:LetterD):Bool:=decide (x.kind=5) && decide (side=k)
theorem vT {side k:Int} {x:LetterD} (h:¬ x.kind=5):lj side k x=false:=by simp [lj,h]
theorem vU {side k:Int} {x:LetterD} (h:¬ side=k):lj side k x=false:=by simp [lj,h]
theorem vV {k:Int} {x:LetterD} (h:x.kind=5):lj k k x=true:=by simp [lj,h]
def jm (side:Int) (w:WorldD) (x:LetterD):WorldD:=
 { w with past:=nb w.past x,answersA:=ma w.answersA (lj side 1 x) w.a.now,answersB:=ma w.answersB (lj side 2 x) w.b.now }
def oR (w:WorldD) (x:LetterD):WorldD:={ w with known:=dY w.known x.tag,nums:=dk (dk (dk w.nums x.nonce) x.give) x.sgn }
def c_ (side:Int) (w:WorldD) (x:LetterD):WorldD:=
 if aZ x.to=0 then oR (jm side w x) x else { jm side w x with bag:=vO w.bag x }
def aq (side:Int) (w:WorldD) (l:List LetterD):WorldD:=l.foldl (c_ side) w
theorem jK {side:Int} {w:WorldD} {l:List LetterD} {k:Nat} (h:k < l.length):aq side w (l.drop k)=aq side (c_ side w l[k]) (l.drop (k+1)):=by
 rw [List.drop_eq_getElem_cons h];rfl
theorem kU {side:Int} {w:WorldD} {l:List LetterD} {k:Nat} (h:l.length≤k):aq side w (l.drop k)=w:=by
 rw [List.drop_eq_nil_of_le h];rfl
def TX (w:WorldD) (side:Int) (l:List LetterD):WorldD:=if side=1∨side=2 then aq side w l else w
def gN (w:WorldD) (x:LetterD):WorldD:=
 if aZ x.to=0 then w else TX (el w (aZ x.to) (cZ (cG w (aZ x.to)) x).1) (aZ x.to) (cZ (cG w (aZ x.to)) x).2
structure SmallP2 (w:WorldD):Prop where
 bag:w.bag.length≤1048576
 past:w.past.length≤1048576
 keys:w.known.keys.length≤1048576
 tags:w.known.tags.length≤1048576
 nums:w.nums.length≤1048576
 ansA:w.answersA.length≤1048576
 ansB:w.answersB.length≤1048576
theorem SmallW.rest {w:WorldD} (h:SmallW w):SmallP2 w:=⟨h.bag,h.past,h.keys,h.tags,h.nums,h.ansA,h.ansB⟩
theorem ze {side:Int} {w:WorldD} {x:LetterD}:(c_ side w x).a=w.a∧(c_ side w x).b=w.b∧(c_ side w x).wroteA=w.wroteA∧(c_ side w x).wroteB=w.wroteB∧(c_ side w x).readA=w.readA∧(c_ side w x).readB=w.readB:=by
 rw [c_];split<;>exact⟨rfl,rfl,rfl,rfl,rfl,rfl⟩
theorem dE {side:Int} {w:WorldD} {x:LetterD} (h:SmallP2 w):SmallP2 (c_ side w x):=by
 rw [c_];split
 ·exact⟨h.bag,xR h.past,by rw [oR,jm,iB];exact h.keys,kC h.tags,d_ (d_ (d_ h.nums)),py h.ansA,py h.ansB⟩
 exact⟨Nn h.bag,xR h.past,h.keys,h.tags,h.nums,py h.ansA,py h.ansB⟩
theorem aE {side:Int}:∀ {l:List LetterD} {w:WorldD},(aq side w l).a=w.a∧(aq side w l).b=w.b∧(aq side w l).wroteA=w.wroteA∧(aq side w l).wroteB=w.wroteB∧(aq side w l).readA=w.readA∧(aq side w l).readB=w.readB
 |[],w=>⟨rfl,rfl,rfl,rfl,rfl,rfl⟩
 |x::l,w=>by
  have h1:=aE (side:=side) (l:=l) (w:=c_ side w x)
  have h2:=ze (side:=side) (w:=w) (x:=x)
  rw [show aq side w (x::l)=aq side (c_ side w x) l from rfl]
  exact⟨h1.1.trans h2.1,h1.2.1.trans h2.2.1,h1.2.2.1.trans h2.2.2.1,h1.2.2.2.1.trans h2.2.2.2.1,h1.2.2.2.2.1.trans h2.2.2.2.2.1,h1.2.2.2.2.2.trans h2.2.2.2.2.2⟩
theorem oS {side:Int}:∀ {l:List LetterD} {w:WorldD},SmallP2 w→SmallP2 (aq side w l)
 |[],w,h=>h
 |x::l,w,h=>oS (l:=l) (dE h)
end
section
open Go.RowKit
theorem zf {l:List HalfD} {h:HalfD} (hl:l.length≤1048576):(bQ l h).1.length≤1048576:=by
 rw [bQ];split
 ·rename_i hh;have:=bH hh;dsimp only;omega
 exact hl
theorem rx {l:List AddrD} {a:AddrD} (hl:l.length≤1048576):(bn l a).1.length≤1048576:=by
 rw [bn];split
 ·rename_i hh;have:=jF hh;dsimp only;omega
 exact hl
theorem oT {l:List AddrD} {n:Int} (hl:l.length≤1048576):(bz l n).1.length≤1048576:=by
 rw [bz];split
 ·exact hl
 simp only [List.length_append,List.length_take,List.length_drop];omega
theorem xS {l:List HalfD} {r:RoadD} (hl:l.length≤1048576):(dp l r).length≤1048576:=by
 rw [dp];split
 ·exact hl
 simp only [List.length_append,List.length_take,List.length_drop];omega
theorem nU {e:EndD} (h:aj e=true):e.done.length≤256∧e.over.length≤256:=by
 simp only [aj,Bool.and_eq_true] at h
 exact⟨by have:=rj (l:=e.done) (m:=e.own) (by simp_all);omega,by have:=rj (l:=e.over) (m:=e.far) (by simp_all);omega⟩
theorem No {e:EndD} {x:LetterD} (h:0≤gI e x):aj e=true:=by
 rcases fV e x with h1|⟨n,_,_,_,h2,_⟩
 ·omega
 exact h2
theorem o8 {e:EndD} {x:LetterD} (hs:Small e):Small (bX e x).1:=by
 rw [bX];split
 ·rename_i h
  simp only [kR,Bool.and_eq_true,decide_eq_true_eq] at h
  exact⟨hs.own,by simp [gp],by simp only [List.length_append,List.length_singleton];omega,hs.halfs,hs.list,hs.done,hs.over⟩
 exact hs
theorem ry {e:EndD} {x:LetterD} (hs:Small e):Small (cf e x).1:=by
 rw [cf];split
 ·exact⟨hs.own,by simp [gp],by simpa only [List.length_set] using hs.subs,hs.halfs,hs.list,hs.done,hs.over⟩
 exact hs
theorem rz {e:EndD} {x:LetterD} (hs:Small e):Small (bT e x).1:=by
 rw [bT];split
 ·split
  ·exact⟨hs.own,hs.far,hs.subs,by simpa only [List.length_set] using hs.halfs,hs.list,hs.done,hs.over⟩
  exact⟨hs.own,hs.far,hs.subs,zf hs.halfs,hs.list,hs.done,hs.over⟩
 exact hs
theorem mb {e:EndD} {x:LetterD} (hs:Small e):Small (bd e x).1:=by
 rw [bd];split
 ·exact⟨hs.own,hs.far,by simpa only [List.length_set] using hs.subs,hs.halfs,hs.list,hs.done,hs.over⟩
 exact hs
theorem mc {e:EndD} {x:LetterD} (hs:Small e):Small (aL e x).1:=by
 rw [aL];split
 ·split
  ·rename_i h
   simp only [sG,Bool.and_eq_true,decide_eq_true_eq] at h
   refine⟨hs.own,hs.far,?_,xS hs.halfs,hs.list,hs.done,hs.over⟩
   split<;>simp only [cS,List.length_append,List.length_set,List.length_singleton]<;>omega
  split<;>exact hs
 exact hs
theorem nc {e:EndD} {x:LetterD} (hs:Small e):Small (bh e x).1:=by
 rw [bh];dsimp only;split
 ·exact⟨hs.own,hs.far,by simpa only [cS,List.length_set] using hs.subs,hs.halfs,hs.list,hs.done,hs.over⟩
 exact hs
theorem rC {e:EndD} {x:LetterD} (hs:Small e):Small (cj e x).1:=by
 rw [cj];split
 ·exact⟨hs.own,rx hs.far,hs.subs,hs.halfs,hs.list,hs.done,hs.over⟩
 exact hs
theorem rD {e:EndD} {x:LetterD} (hs:Small e):Small (ck e x).1:=by
 rw [ck];dsimp only;split
 ·exact⟨by simpa only [List.length_set] using hs.own,hs.far,hs.subs,hs.halfs,hs.list,hs.done,hs.over⟩
 exact hs
theorem rE {e:EndD} {x:LetterD} (hs:Small e):Small (cm e x).1:=by
 rw [cm];dsimp only;split
 ·rename_i h
  simp only [nS,Bool.and_eq_true,decide_eq_true_eq] at h
  have:=(nU (No h.1)).2
  exact⟨hs.own,oT hs.far,by simpa only [List.length_map] using hs.subs,hs.halfs,hs.list,hs.done,by have:=ky e.over x.id;dsimp only;omega⟩
 exact hs
theorem rF {e:EndD} {x:LetterD} (hs:Small e):Small (co e x).1:=by
 rw [co];split
 ·exact⟨hs.own,hs.far,hs.subs,hs.halfs,kz hs.list,hs.done,hs.over⟩
 exact hs
theorem rG {e:EndD} {x:LetterD} (hs:Small e):Small (ce e x).1:=by
 rw [ce];dsimp only;split
 ·exact⟨hs.own,hs.far,hs.subs,hs.halfs,hs.list,hs.done,hs.over⟩
 exact hs
theorem o9 {e:EndD} {x:LetterD} (hs:Small e):Small (bK e x).1:=by
 rw [bK];dsimp only;split
 ·exact⟨hs.own,hs.far,by simpa only [cS,List.length_set] using hs.subs,hs.halfs,hs.list,hs.done,hs.over⟩
 exact hs
theorem xT {e:EndD} {x:LetterD} {Q:EndD×List LetterD→Prop} (h0:Q (e,[])) (h1:Q (bX e x)) (h2:Q (cf e x)) (h4:Q (bT e x)) (h5:Q (bd e x)) (h6:Q (aL e x)) (h7:Q (bh e x)) (h8:Q (cj e x)) (h9:Q (ck e x)) (h10:Q (cm e x)) (h11:Q (co e x)) (h12:Q (ce e x)) (h13:Q (bK e x)):Q (cZ e x):=by
 by_cases hc:cT e x=true
 ·by_cases k1:x.kind=1
  ·rw [y6 hc k1];exact h1
  by_cases k2:x.kind=2
  ·rw [y7 hc k2];exact h2
  by_cases k4:x.kind=4
  ·rw [y8 hc k4];exact h4
  by_cases k5:x.kind=5
  ·rw [y9 hc k5];exact h5
  by_cases k6:x.kind=6
  ·rw [y_ hc k6];exact h6
  by_cases k7:x.kind=7
  ·rw [za hc k7];exact h7
  by_cases k8:x.kind=8
  ·rw [zb hc k8];exact h8
  by_cases k9:x.kind=9
  ·rw [zc hc k9];exact h9
  by_cases k10:x.kind=10
  ·rw [vH hc k10];exact h10
  by_cases k11:x.kind=11
  ·rw [vI hc k11];exact h11
  by_cases k12:x.kind=12
  ·rw [vJ hc k12];exact h12
  by_cases k13:x.kind=13
  ·rw [vK hc k13];exact h13
  rw [y5 (by intro k hk;omega)];exact h0
 rw [vG (by simpa using hc)];exact h0
theorem gu {e:EndD} {x:LetterD} (hs:Small e):Small (cZ e x).1:=
 xT (Q:=fun r=>Small r.1) hs (o8 hs) (ry hs) (rz hs) (mb hs) (mc hs) (nc hs) (rC hs) (rD hs) (rE hs) (rF hs) (rG hs) (o9 hs)
theorem nd {e:EndD} {x:LetterD}:(cZ e x).2.length≤1:=by
 refine xT (Q:=fun r=>r.2.length≤1) (by simp) ?_ ?_ ?_ ?_ ?_ ?_ ?_ ?_ ?_ ?_ ?_ ?_
 ·rw [bX];split<;>simp
 ·rw [cf];split<;>simp
 ·rw [bT];split
  ·split<;>simp
  simp
 ·rw [bd];split<;>simp
 ·rw [aL];split
  ·split
   ·simp
   split<;>simp
  simp
 ·rw [bh];simp
 ·rw [cj];split<;>simp
 ·rw [ck];simp
 ·rw [cm];simp
 ·rw [co];split<;>simp
 ·rw [ce];simp
 rw [bK];simp
end
section
open Go.RowKit
def dK (w:WorldD) (own:Bool):Hp:=[some ⟨w.a.own.map AddrD.cs,4,88,own,true⟩,some ⟨w.a.far.map AddrD.cs,4,88,own,true⟩,some ⟨w.a.subs.map SubD.cs,10,201,own,true⟩,some ⟨w.a.halfs.map HalfD.cs,8,213,own,true⟩,some ⟨w.a.inp.list.map PieceD.cs,2,256,own,true⟩,some ⟨w.a.done.map aC,1,3,own,true⟩,some ⟨w.a.over.map aC,1,3,own,true⟩,some ⟨w.b.own.map AddrD.cs,4,88,own,true⟩,some ⟨w.b.far.map AddrD.cs,4,88,own,true⟩,some ⟨w.b.subs.map SubD.cs,10,201,own,true⟩,some ⟨w.b.halfs.map HalfD.cs,8,213,own,true⟩,some ⟨w.b.inp.list.map PieceD.cs,2,256,own,true⟩,some ⟨w.b.done.map aC,1,3,own,true⟩,some ⟨w.b.over.map aC,1,3,own,true⟩]
def dL (w:WorldD) (own:Bool):Hp:=[some ⟨w.bag.map LetterD.cs,19,91,own,true⟩,some ⟨w.past.map LetterD.cs,19,91,own,true⟩,some ⟨w.known.keys.map aC,1,3,own,true⟩,some ⟨w.known.tags.map TagD.cs,5,89,own,true⟩,some ⟨w.nums.map aC,1,3,own,true⟩,some ⟨w.answersA.map aC,1,3,own,true⟩,some ⟨w.answersB.map aC,1,3,own,true⟩]
attribute [go_sem] dK dL
theorem fL (w:WorldD) (e:EndD):ae Tryz.prog 154 [.sc (.pt 28 0 0),.sc (.int .i64 1),.ag (e.cs 21)] (w.hp false++(e.hp false++[some ⟨[w.cs 0],61,51,true,false⟩])) (.tu [])
  (w.hp false++(e.hp false++[some ⟨[(c7 { w with a:=e } 21 22 23 24 25 26 27 7 8 9 10 11 12 13 14 15 16 17 18 19 20)],61,51,true,false⟩])):=by
 refine ga Tryz.func154 Tryz.ntmps154 Tryz.results154 fun E hE=>?_
 exact cc (qI 0 29)
theorem fM (w:WorldD) (e:EndD):ae Tryz.prog 154 [.sc (.pt 28 0 0),.sc (.int .i64 2),.ag (e.cs 21)] (w.hp false++(e.hp false++[some ⟨[w.cs 0],61,51,true,false⟩])) (.tu [])
  (w.hp false++(e.hp false++[some ⟨[(c7 { w with b:=e } 0 1 2 3 4 5 6 21 22 23 24 25 26 27 14 15 16 17 18 19 20)],61,51,true,false⟩])):=by
 refine ga Tryz.func154 Tryz.ntmps154 Tryz.results154 fun E hE=>?_
 exact cc (qI 0 29)
theorem dF (w:WorldD) (e:EndD):ae Tryz.prog 124 [.ag (w.cs 0),.sc (.int .i64 1),.ag (e.cs 21)] (w.hp false++e.hp false) (.ag (c7 { w with a:=e } 21 22 23 24 25 26 27 7 8 9 10 11 12 13 14 15 16 17 18 19 20)) (w.hp false++e.hp false):=by
 refine ga Tryz.func124 Tryz.ntmps124 Tryz.results124 fun E hE=>?_
 exact cc (qI 0 28)
theorem dG (w:WorldD) (e:EndD):ae Tryz.prog 124 [.ag (w.cs 0),.sc (.int .i64 2),.ag (e.cs 21)] (w.hp false++e.hp false) (.ag (c7 { w with b:=e } 0 1 2 3 4 5 6 21 22 23 24 25 26 27 14 15 16 17 18 19 20)) (w.hp false++e.hp false):=by
 refine ga Tryz.func124 Tryz.ntmps124 Tryz.results124 fun E hE=>?_
 exact cc (qI 0 28)
theorem eh (w:WorldD) (n:Int) (h0:w.nums.length≤1048576):ae Tryz.prog 219 [.ag (w.cs 0),.sc (.int .i64 n)] [some ⟨w.a.own.map AddrD.cs,4,88,false,true⟩,some ⟨w.a.far.map AddrD.cs,4,88,false,true⟩,some ⟨w.a.subs.map SubD.cs,10,201,false,true⟩,some ⟨w.a.halfs.map HalfD.cs,8,213,false,true⟩,some ⟨w.a.inp.list.map PieceD.cs,2,256,false,true⟩,some ⟨w.a.done.map aC,1,3,false,true⟩,some ⟨w.a.over.map aC,1,3,false,true⟩,some ⟨w.b.own.map AddrD.cs,4,88,false,true⟩,some ⟨w.b.far.map AddrD.cs,4,88,false,true⟩,some ⟨w.b.subs.map SubD.cs,10,201,false,true⟩,some ⟨w.b.halfs.map HalfD.cs,8,213,false,true⟩,some ⟨w.b.inp.list.map PieceD.cs,2,256,false,true⟩,some ⟨w.b.done.map aC,1,3,false,true⟩,some ⟨w.b.over.map aC,1,3,false,true⟩,some ⟨w.bag.map LetterD.cs,19,91,false,true⟩,some ⟨w.past.map LetterD.cs,19,91,false,true⟩,some ⟨w.known.keys.map aC,1,3,false,true⟩,some ⟨w.known.tags.map TagD.cs,5,89,false,true⟩,some ⟨w.nums.map aC,1,3,true,true⟩,some ⟨w.answersA.map aC,1,3,false,true⟩,some ⟨w.answersB.map aC,1,3,false,true⟩] (.ag (c7 { w with nums:=dk w.nums n } 0 1 2 3 4 5 6 7 8 9 10 11 12 13 14 15 16 17 21 19 20))
  [some ⟨w.a.own.map AddrD.cs,4,88,false,true⟩,some ⟨w.a.far.map AddrD.cs,4,88,false,true⟩,some ⟨w.a.subs.map SubD.cs,10,201,false,true⟩,some ⟨w.a.halfs.map HalfD.cs,8,213,false,true⟩,some ⟨w.a.inp.list.map PieceD.cs,2,256,false,true⟩,some ⟨w.a.done.map aC,1,3,false,true⟩,some ⟨w.a.over.map aC,1,3,false,true⟩,some ⟨w.b.own.map AddrD.cs,4,88,false,true⟩,some ⟨w.b.far.map AddrD.cs,4,88,false,true⟩,some ⟨w.b.subs.map SubD.cs,10,201,false,true⟩,some ⟨w.b.halfs.map HalfD.cs,8,213,false,true⟩,some ⟨w.b.inp.list.map PieceD.cs,2,256,false,true⟩,some ⟨w.b.done.map aC,1,3,false,true⟩,some ⟨w.b.over.map aC,1,3,false,true⟩,some ⟨w.bag.map LetterD.cs,19,91,false,true⟩,some ⟨w.past.map LetterD.cs,19,91,false,true⟩,some ⟨w.known.keys.map aC,1,3,false,true⟩,some ⟨w.known.tags.map TagD.cs,5,89,false,true⟩,none,some ⟨w.answersA.map aC,1,3,false,true⟩,some ⟨w.answersB.map aC,1,3,false,true⟩,some ⟨(dk w.nums n).map aC,1,3,true,true⟩]:=by
 have hH:=fF w.nums n h0
 have ht:=zd (l:=w.nums) (n:=n)
 have hf1:=vL (l:=w.nums) (n:=n)
 have hf2:=vM (l:=w.nums) (n:=n)
 have hf3:=vN (l:=w.nums) (n:=n)
 generalize dk w.nums n=R at*
 refine ga Tryz.func219 Tryz.ntmps219 Tryz.results219 fun E hE=>?_
 refine qB (fun b1=>?_) fun b1=>?_
 ·refine qB (fun b2=>?_) fun b2=>?_
  ·refine qK (hH) (qI 18 1) ?_
   refine qB (fun b3=>?_) fun b3=>?_
   ·rw [ht b1 b3 (by omega)]
    refine qX ?_
    refine aA (qI 0 21++qI 24 1) (qC) _ (by simp only [go_sem];rfl) (by rfl) (by rfl) ?_
    simp (disch:=omega) only [go_sem,seval]
    try simp [aC]
   rw [hf2 b3]
   refine qX ?_
   exact cc (qI 0 21++qI 18 1)
  rw [hf3 (by omega)]
  refine qX ?_
  exact cc (qI 0 21++qI 18 1)
 rw [hf1 b1]
 refine qX ?_
 exact cc (qI 0 21++qI 18 1)
end
section
open Go.RowKit
def iY (x:LetterD):List Int:=[x.nonce,x.give,x.sgn]
theorem rH {l:List Int} {m:List Int} {k:Nat} (h:k < l.length):(l.drop k).foldl dk m=(l.drop (k+1)).foldl dk (dk m l[k]):=by
 rw [List.drop_eq_getElem_cons h];rfl
theorem uA {l:List Int} {m:List Int} {k:Nat} (h:l.length≤k):(l.drop k).foldl dk m=m:=by
 rw [List.drop_eq_nil_of_le h];rfl
theorem eM (w:WorldD) (l:List LetterD) (hw:SmallP2 w) (hl:l.length≤1048576):ae Tryz.prog 155 [.sc (.pt 21 0 0),.sc (.int .i64 1),.sc (.sl 22 0 l.length)]
  (dK w false++(dL w true++[some ⟨[w.cs 0],61,51,true,false⟩,some ⟨l.map LetterD.cs,19,91,false,true⟩])) (.tu [])
  (dK w false++([none,none,none,none,none,none,none,some ⟨[(c7 (aq 1 w l) 0 1 2 3 4 5 6 7 8 9 10 11 12 13 23 24 25 26 27 28 29)],61,51,true,false⟩,some ⟨l.map LetterD.cs,19,91,false,true⟩]++dL (aq 1 w l) true)):=by
 obtain⟨R,hR⟩:∃ R,R=aq 1 w l:=⟨_,rfl⟩
 rw [←hR]
 have hl2:l.length≤9223372036854775807:=by omega
 refine aN Tryz.func155 (by kernel_rfl) rfl fun E hE=>ac 400 ?_
 simp (disch:=omega) only [Tryz.ntmps155,Tryz.results155,go_sem,Nat.reduceEqDiff,Nat.reduceAdd,Nat.reduceSub,Int.reduceAdd,Int.reduceSub,Int.reduceToNat]
 refine cE 23 hE (fun s (y:Nat×WorldD)=>s.at (qU [2,1,7,1,9,1,13,145]) [(12,.sc (.int .i64 (y.1:Nat)))] (dK w false++([none,none,none,none,none,none,none,some ⟨[(c7 y.2 0 1 2 3 4 5 6 7 8 9 10 11 12 13 23 24 25 26 27 28 29)],61,51,true,false⟩,some ⟨l.map LetterD.cs,19,91,false,true⟩]++(dL y.2 true)))) (fun (y:Nat×WorldD)=>y.1≤l.length∧y.2.a=w.a∧y.2.b=w.b∧SmallP2 y.2∧R=aq 1 y.2 (l.drop y.1)) (fun (y:Nat×WorldD)=>l.length - y.1) (0,w) (qI 0 23++qI 14 7) (qC) (⟨Nat.zero_le _,rfl,rfl,hw,hR⟩) (ab (by rfl) (by rfl) ?_) fun y hy N hN=>?_
 ·try simp (disch:=omega) only [go_sem,Nat.reduceEqDiff,Nat.reduceAdd,Nat.reduceSub,Int.reduceAdd,Int.reduceSub,Int.reduceToNat]
 obtain⟨i,u⟩:=y
 obtain⟨hi,ha,hb,hS,hu⟩:=hy
 obtain⟨ua,ub,bag,past,wA,wB,rA,rB,known,nums,nsA,nsB⟩:=u
 obtain⟨keys,tags⟩:=known
 dsimp only at hi ha hb hu
 subst ha hb
 have s1:=hS.bag
 have s2:=hS.past
 have s3:=hS.keys
 have s4:=hS.tags
 have s5:=hS.nums
 have s6:=hS.ansA
 have s7:=hS.ansB
 dsimp only at s1 s2 s3 s4 s5 s6 s7
 refine dm 21 400 ?_
 try simp (disch:=omega) only [go_sem,Nat.reduceEqDiff,Nat.reduceAdd,Nat.reduceSub,Int.reduceAdd,Int.reduceSub,Int.reduceToNat,Nat.reduceBEq]
 split<;>rename_i h<;>(try simp only [decide_eq_true_eq,decide_eq_false_iff_not,Int.ofNat_lt] at h)
 rotate_left
 ·have e:i=l.length:=by omega
  subst e
  rw [kU (Nat.le_refl _)] at hu
  subst hu
  try simp (disch:=omega) only [go_sem,Nat.reduceEqDiff,Nat.reduceAdd,Nat.reduceSub,Int.reduceAdd,Int.reduceSub,Int.reduceToNat,Nat.reduceBEq]
  refine aA (qI 0 30) (qC) _ (by simp only [go_sem];rfl) (by rfl) (by rfl) ?_
  simp (disch:=omega) only [go_sem,Nat.reduceEqDiff,Nat.reduceAdd,Nat.reduceSub,Int.reduceAdd,Int.reduceSub,Int.reduceToNat,Nat.reduceBEq]
 rw [jK h] at hu
 generalize hx:l[i]=x at hu
 have hget:=ao (enc:=LetterD.cs) h
 rw [hx] at hget
 try simp (disch:=omega) only [go_sem,Nat.reduceEqDiff,Nat.reduceAdd,Nat.reduceSub,Int.reduceAdd,Int.reduceSub,Int.reduceToNat,Nat.reduceBEq,hget]
 obtain⟨p1,hp1⟩:∃ p,p=nb past x:=⟨_,rfl⟩
 refine dP 23 hE (fun s=>s.at (qU [13,19]) [] (dK w false++([none,none,none,none,none,none,none,some ⟨[(c7 (⟨w.a,w.b,bag,p1,wA,wB,rA,rB,⟨keys,tags⟩,nums,nsA,nsB⟩:WorldD) 0 1 2 3 4 5 6 7 8 9 10 11 12 13 23 24 25 26 27 28 29)],61,51,true,false⟩,some ⟨l.map LetterD.cs,19,91,false,true⟩]++(dL (⟨w.a,w.b,bag,p1,wA,wB,rA,rB,⟨keys,tags⟩,nums,nsA,nsB⟩:WorldD) true++[some ⟨[x.cs],19,91,true,false⟩])))) (qC) (by rfl) (fun N hN=>ac 401 ?_) (dm 34 400 ?_)
 ·try simp (disch:=omega) only [go_sem,Nat.reduceEqDiff,Nat.reduceAdd,Nat.reduceSub,Int.reduceAdd,Int.reduceSub,Int.reduceToNat,Nat.reduceBEq]
  split<;>rename_i b1<;>(try simp only [beq_true,beq_false,Bool.not_eq_true',Bool.not_eq_false'] at b1)<;>simp (disch:=omega) only [go_sem,Nat.reduceEqDiff,Nat.reduceAdd,Nat.reduceSub,Int.reduceAdd,Int.reduceSub,Int.reduceToNat,Nat.reduceBEq,b1]<;>(try simp only [decide_eq_true_eq,decide_eq_false_iff_not,beq_iff_eq,beq_eq_false_iff_ne,bne_iff_ne,bne_eq_false_iff_eq,ne_eq,Decidable.not_not,Bool.and_eq_true,Bool.and_eq_false_iff,Bool.or_eq_true,Bool.or_eq_false_iff,Int.ofNat_lt,Int.ofNat_le,Bool.not_eq_eq_eq_not,Bool.not_true,Bool.not_false] at b1)<;>try simp (disch:=omega) only [go_sem,Nat.reduceEqDiff,Nat.reduceAdd,Nat.reduceSub,Int.reduceAdd,Int.reduceSub,Int.reduceToNat,Nat.reduceBEq]
  ·rw [pw (by omega)] at hp1
   subst hp1
   refine ar (qU [0,11]) (by kernel_rfl) (qC) (by kernel_rfl) (aa 400 ?_)
   simp (disch:=omega) only [go_sem,Nat.reduceEqDiff,Nat.reduceAdd,Nat.reduceSub,Int.reduceAdd,Int.reduceSub,Int.reduceToNat,Nat.reduceBEq]
   refine⟨qC,dm 34 400 ?_⟩
   try simp (disch:=omega) only [go_sem,Nat.reduceEqDiff,Nat.reduceAdd,Nat.reduceSub,Int.reduceAdd,Int.reduceSub,Int.reduceToNat,Nat.reduceBEq]
   refine⟨qC,hN _ (qI 0 24++qI 32 1++qI 25 6) (ab (by rfl) (by rfl) ?_)⟩
   simp (disch:=omega) only [go_sem,Nat.reduceEqDiff,Nat.reduceAdd,Nat.reduceSub,Int.reduceAdd,Int.reduceSub,Int.reduceToNat,Nat.reduceBEq]
   try simp [LetterD.cs]
  rw [px (by omega)] at hp1
  subst hp1
  try simp (disch:=omega) only [go_sem,Nat.reduceEqDiff,Nat.reduceAdd,Nat.reduceSub,Int.reduceAdd,Int.reduceSub,Int.reduceToNat,Nat.reduceBEq]
  refine⟨qC,hN _ (qI 0 31) (ab (by rfl) (by rfl) ?_)⟩
  simp (disch:=omega) only [go_sem,Nat.reduceEqDiff,Nat.reduceAdd,Nat.reduceSub,Int.reduceAdd,Int.reduceSub,Int.reduceToNat,Nat.reduceBEq]
 try simp (disch:=omega) only [go_sem,Nat.reduceEqDiff,Nat.reduceAdd,Nat.reduceSub,Int.reduceAdd,Int.reduceSub,Int.reduceToNat,Nat.reduceBEq]
 obtain⟨q1,hq1⟩:∃ q,q=ma nsA (lj 1 1 x) w.a.now:=⟨_,rfl⟩
 refine dP 23 hE (fun s=>s.at (qU [13,70]) [] (dK w false++([none,none,none,none,none,none,none,some ⟨[(c7 (⟨w.a,w.b,bag,p1,wA,wB,rA,rB,⟨keys,tags⟩,nums,q1,nsB⟩:WorldD) 0 1 2 3 4 5 6 7 8 9 10 11 12 13 23 24 25 26 27 28 29)],61,51,true,false⟩,some ⟨l.map LetterD.cs,19,91,false,true⟩]++(dL (⟨w.a,w.b,bag,p1,wA,wB,rA,rB,⟨keys,tags⟩,nums,q1,nsB⟩:WorldD) true++[some ⟨[x.cs],19,91,true,false⟩])))) (qC) (by rfl) (fun N hN=>ac 401 ?_) (ac 400 ?_)
 ·try simp (disch:=omega) only [go_sem,Nat.reduceEqDiff,Nat.reduceAdd,Nat.reduceSub,Int.reduceAdd,Int.reduceSub,Int.reduceToNat]
  split<;>rename_i b2<;>(try simp only [beq_true,beq_false,Bool.not_eq_true',Bool.not_eq_false'] at b2)<;>simp (disch:=omega) only [go_sem,Nat.reduceEqDiff,Nat.reduceAdd,Nat.reduceSub,Int.reduceAdd,Int.reduceSub,Int.reduceToNat,b2]<;>(try simp only [decide_eq_true_eq,decide_eq_false_iff_not,beq_iff_eq,beq_eq_false_iff_ne,bne_iff_ne,bne_eq_false_iff_eq,ne_eq,Decidable.not_not,Bool.and_eq_true,Bool.and_eq_false_iff,Bool.or_eq_true,Bool.or_eq_false_iff,Int.ofNat_lt,Int.ofNat_le,Bool.not_eq_eq_eq_not,Bool.not_true,Bool.not_false] at b2)<;>try simp (disch:=omega) only [go_sem,Nat.reduceEqDiff,Nat.reduceAdd,Nat.reduceSub,Int.reduceAdd,Int.reduceSub,Int.reduceToNat]
  ·rw [vV b2] at hq1
   split<;>rename_i b3<;>(try simp only [beq_true,beq_false,Bool.not_eq_true',Bool.not_eq_false'] at b3)<;>simp (disch:=omega) only [go_sem,Nat.reduceEqDiff,Nat.reduceAdd,Nat.reduceSub,Int.reduceAdd,Int.reduceSub,Int.reduceToNat,b3]<;>(try simp only [decide_eq_true_eq,decide_eq_false_iff_not,beq_iff_eq,beq_eq_false_iff_ne,bne_iff_ne,bne_eq_false_iff_eq,ne_eq,Decidable.not_not,Bool.and_eq_true,Bool.and_eq_false_iff,Bool.or_eq_true,Bool.or_eq_false_iff,Int.ofNat_lt,Int.ofNat_le,Bool.not_eq_eq_eq_not,Bool.not_true,Bool.not_false] at b3)<;>try simp (disch:=omega) only [go_sem,Nat.reduceEqDiff,Nat.reduceAdd,Nat.reduceSub,Int.reduceAdd,Int.reduceSub,Int.reduceToNat]
   ·rw [vR (by omega)] at hq1
    subst hq1
    refine ar (qU [0,15]) (by kernel_rfl) (qC) (by kernel_rfl) (aa 400 ?_)
    simp (disch:=omega) only [go_sem,Nat.reduceEqDiff,Nat.reduceAdd,Nat.reduceSub,Int.reduceAdd,Int.reduceSub,Int.reduceToNat]
    refine⟨qC,ac 400 ?_⟩
    try simp (disch:=omega) only [go_sem,Nat.reduceEqDiff,Nat.reduceAdd,Nat.reduceSub,Int.reduceAdd,Int.reduceSub,Int.reduceToNat]
    refine⟨qC,hN _ (qI 0 28++qI 32 1++qI 29 2) (ab (by rfl) (by rfl) ?_)⟩
    simp (disch:=omega) only [go_sem,Nat.reduceEqDiff,Nat.reduceAdd,Nat.reduceSub,Int.reduceAdd,Int.reduceSub,Int.reduceToNat]
    try simp [aC]
   rw [vS (by omega)] at hq1
   subst hq1
   try simp (disch:=omega) only [go_sem,Nat.reduceEqDiff,Nat.reduceAdd,Nat.reduceSub,Int.reduceAdd,Int.reduceSub,Int.reduceToNat]
   refine⟨qC,hN _ (qI 0 31) (ab (by rfl) (by rfl) ?_)⟩
   simp (disch:=omega) only [go_sem,Nat.reduceEqDiff,Nat.reduceAdd,Nat.reduceSub,Int.reduceAdd,Int.reduceSub,Int.reduceToNat]
  rw [vT b2,iX] at hq1
  subst hq1
  try simp (disch:=omega) only [go_sem,Nat.reduceEqDiff,Nat.reduceAdd,Nat.reduceSub,Int.reduceAdd,Int.reduceSub,Int.reduceToNat]
  refine⟨qC,hN _ (qI 0 31) (ab (by rfl) (by rfl) ?_)⟩
  simp (disch:=omega) only [go_sem,Nat.reduceEqDiff,Nat.reduceAdd,Nat.reduceSub,Int.reduceAdd,Int.reduceSub,Int.reduceToNat]
 try simp (disch:=omega) only [go_sem,Nat.reduceEqDiff,Nat.reduceAdd,Nat.reduceSub,Int.reduceAdd,Int.reduceSub,Int.reduceToNat]
 refine al (qC) (dC x.to) [] qM (by rfl) (ac 400 ?_)
 simp (disch:=omega) only [go_sem,Nat.reduceEqDiff,Nat.reduceAdd,Nat.reduceSub,Int.reduceAdd,Int.reduceSub,Int.reduceToNat]
 have hoth:ma nsB (lj 1 2 x) w.b.now=nsB:=by rw [vU (by decide),iX]
 split<;>rename_i b4<;>(try simp only [beq_true,beq_false,Bool.not_eq_true',Bool.not_eq_false'] at b4)<;>simp (disch:=omega) only [go_sem,Nat.reduceEqDiff,Nat.reduceAdd,Nat.reduceSub,Int.reduceAdd,Int.reduceSub,Int.reduceToNat,b4]<;>(try simp only [decide_eq_true_eq,decide_eq_false_iff_not,beq_iff_eq,beq_eq_false_iff_ne,bne_iff_ne,bne_eq_false_iff_eq,ne_eq,Decidable.not_not,Bool.and_eq_true,Bool.and_eq_false_iff,Bool.or_eq_true,Bool.or_eq_false_iff,Int.ofNat_lt,Int.ofNat_le,Bool.not_eq_eq_eq_not,Bool.not_true,Bool.not_false] at b4)<;>try simp (disch:=omega) only [go_sem,Nat.reduceEqDiff,Nat.reduceAdd,Nat.reduceSub,Int.reduceAdd,Int.reduceSub,Int.reduceToNat]
 ·have hK:=ru ⟨keys,tags⟩ x.tag (by dsimp only;omega) (by dsimp only;omega)
  have hky:(dY ⟨keys,tags⟩ x.tag).keys.length≤1048576:=by rw [iB];exact s3
  have hkt:(dY ⟨keys,tags⟩ x.tag).tags.length≤1048576:=kC s4
  obtain⟨kk,hkk⟩:∃ k,k=dY ⟨keys,tags⟩ x.tag:=⟨_,rfl⟩
  rw [←hkk] at hK hky hkt
  obtain⟨k1,t1⟩:=kk
  dsimp only at hky hkt
  refine ar (qU [0,11]) (by kernel_rfl) (qC) (by kernel_rfl) (aa 400 ?_)
  simp (disch:=omega) only [go_sem,Nat.reduceEqDiff,Nat.reduceAdd,Nat.reduceSub,Int.reduceAdd,Int.reduceSub,Int.reduceToNat]
  refine am (qC) (hK) (qI 25 2) qM (by rfl) (by rfl) (aa 400 ?_)
  simp (disch:=omega) only [go_sem,Nat.reduceEqDiff,Nat.reduceAdd,Nat.reduceSub,Int.reduceAdd,Int.reduceSub,Int.reduceToNat]
  refine⟨qC,ac 400 ?_⟩
  try simp (disch:=omega) only [go_sem,Nat.reduceEqDiff,Nat.reduceAdd,Nat.reduceSub,Int.reduceAdd,Int.reduceSub,Int.reduceToNat]
  obtain⟨n1,hn1⟩:∃ n,n=(iY x).foldl dk nums:=⟨_,rfl⟩
  have hn1l:n1.length≤1048576:=by rw [hn1];exact d_ (d_ (d_ s5))
  refine cE 23 hE (fun s (z:Nat×List Int)=>s.at (qU [2,1,9,1,14,7,22,12,35,9,45,23,69,14,84,20,107,33,141,17]) [(106,.sc (.int .i64 (z.1:Nat))),(104,.sc (.sl 31 0 3))] (dK w false++([none,none,none,none,none,none,none,some ⟨[(c7 (⟨w.a,w.b,bag,p1,wA,wB,rA,rB,⟨k1,t1⟩,z.2,q1,nsB⟩:WorldD) 0 1 2 3 4 5 6 7 8 9 10 11 12 13 23 24 25 26 27 28 29)],61,51,true,false⟩,some ⟨l.map LetterD.cs,19,91,false,true⟩]++(dL (⟨w.a,w.b,bag,p1,wA,wB,rA,rB,⟨k1,t1⟩,z.2,q1,nsB⟩:WorldD) true++[some ⟨[x.cs],19,91,true,false⟩]++[some ⟨[[.int .i64 x.nonce],[.int .i64 x.give],[.int .i64 x.sgn]],1,3,true,true⟩])))) (fun (z:Nat×List Int)=>z.1≤3∧z.2.length≤1048576∧n1=((iY x).drop z.1).foldl dk z.2) (fun (z:Nat×List Int)=>3 - z.1) (0,nums) (qI 0 25++qI 31 2++qI 27 4++qI 33 1) (qC) (⟨Nat.zero_le _,s5,hn1⟩) (ab (by rfl) (by rfl) ?_) fun z hz N2 hN2=>?_
  ·try simp (disch:=omega) only [go_sem,Nat.reduceEqDiff,Nat.reduceAdd,Nat.reduceSub,Int.reduceAdd,Int.reduceSub,Int.reduceToNat]
  obtain⟨j,m⟩:=z
  obtain⟨hj,hm,hn⟩:=hz
  dsimp only at hj hm hn
  refine ac 400 ?_
  try simp (disch:=omega) only [go_sem,Nat.reduceEqDiff,Nat.reduceAdd,Nat.reduceSub,Int.reduceAdd,Int.reduceSub,Int.reduceToNat]
  split<;>rename_i h5<;>(try simp only [decide_eq_true_eq,decide_eq_false_iff_not,Int.ofNat_lt] at h5)
  rotate_left
  ·have e:j=3:=by omega
   subst e
   rw [uA (by simp [iY])] at hn
   subst hn
   try simp (disch:=omega) only [go_sem,Nat.reduceEqDiff,Nat.reduceAdd,Nat.reduceSub,Int.reduceAdd,Int.reduceSub,Int.reduceToNat]
   refine⟨qC,hN _ (i+1,(⟨w.a,w.b,bag,p1,wA,wB,rA,rB,⟨k1,t1⟩,n1,q1,nsB⟩:WorldD)) (qI 0 30) (⟨by omega,rfl,rfl,?_,?_⟩) (by (try dsimp only);omega) (ab (by rfl) (by rfl) ?_)⟩
   ·have e:c_ 1 (⟨w.a,w.b,bag,past,wA,wB,rA,rB,⟨keys,tags⟩,nums,nsA,nsB⟩:WorldD) x=(⟨w.a,w.b,bag,p1,wA,wB,rA,rB,⟨k1,t1⟩,n1,q1,nsB⟩:WorldD):=by
     rw [c_,if_pos b4,oR,jm]
     dsimp only
     rw [←hkk,hoth,←hp1,←hq1,hn1]
     rfl
    rw [←e]
    exact dE hS
   ·have e:c_ 1 (⟨w.a,w.b,bag,past,wA,wB,rA,rB,⟨keys,tags⟩,nums,nsA,nsB⟩:WorldD) x=(⟨w.a,w.b,bag,p1,wA,wB,rA,rB,⟨k1,t1⟩,n1,q1,nsB⟩:WorldD):=by
     rw [c_,if_pos b4,oR,jm]
     dsimp only
     rw [←hkk,hoth,←hp1,←hq1,hn1]
     rfl
    rw [←e]
    exact hu
   try simp (disch:=omega) only [go_sem,Nat.reduceEqDiff,Nat.reduceAdd,Nat.reduceSub,Int.reduceAdd,Int.reduceSub,Int.reduceToNat]
  have h6:j < (iY x).length:=by simp only [iY,List.length_cons,List.length_nil];omega
  rw [rH h6] at hn
  generalize hv:(iY x)[j]=v at hn
  have hg3:([[.int .i64 x.nonce],[.int .i64 x.give],[.int .i64 x.sgn]]:List (List Sc))[j]? =some (aC v):=by
   rw [←hv]
   rw [show ([[.int .i64 x.nonce],[.int .i64 x.give],[.int .i64 x.sgn]]:List (List Sc))=(iY x).map aC from rfl]
   exact ao h6
  simp only [aC] at hg3
  have hH:=eH m v hm
  have ht:=zd (l:=m) (n:=v)
  have hf1:=vL (l:=m) (n:=v)
  have hf2:=vM (l:=m) (n:=v)
  have hf3:=vN (l:=m) (n:=v)
  have hvl:(dk m v).length≤1048576:=d_ hm
  generalize dk m v=m1 at*
  try simp (disch:=omega) only [go_sem,Nat.reduceEqDiff,Nat.reduceAdd,Nat.reduceSub,Int.reduceAdd,Int.reduceSub,Int.reduceToNat,hg3]
  split<;>rename_i c1<;>(try simp only [beq_true,beq_false,Bool.not_eq_true',Bool.not_eq_false'] at c1)<;>simp (disch:=omega) only [go_sem,Nat.reduceEqDiff,Nat.reduceAdd,Nat.reduceSub,Int.reduceAdd,Int.reduceSub,Int.reduceToNat,c1]<;>(try simp only [decide_eq_true_eq,decide_eq_false_iff_not,beq_iff_eq,beq_eq_false_iff_ne,bne_iff_ne,bne_eq_false_iff_eq,ne_eq,Decidable.not_not,Bool.and_eq_true,Bool.and_eq_false_iff,Bool.or_eq_true,Bool.or_eq_false_iff,Int.ofNat_lt,Int.ofNat_le,Bool.not_eq_eq_eq_not,Bool.not_true,Bool.not_false] at c1)<;>try simp (disch:=omega) only [go_sem,Nat.reduceEqDiff,Nat.reduceAdd,Nat.reduceSub,Int.reduceAdd,Int.reduceSub,Int.reduceToNat]
  ·refine al (qC) (hH) (qI 27 1) qM (by rfl) (ac 400 ?_)
   simp (disch:=omega) only [go_sem,Nat.reduceEqDiff,Nat.reduceAdd,Nat.reduceSub,Int.reduceAdd,Int.reduceSub,Int.reduceToNat]
   split<;>rename_i c2<;>(try simp only [beq_true,beq_false,Bool.not_eq_true',Bool.not_eq_false'] at c2)<;>simp (disch:=omega) only [go_sem,Nat.reduceEqDiff,Nat.reduceAdd,Nat.reduceSub,Int.reduceAdd,Int.reduceSub,Int.reduceToNat,c2]<;>(try simp only [decide_eq_true_eq,decide_eq_false_iff_not,beq_iff_eq,beq_eq_false_iff_ne,bne_iff_ne,bne_eq_false_iff_eq,ne_eq,Decidable.not_not,Bool.and_eq_true,Bool.and_eq_false_iff,Bool.or_eq_true,Bool.or_eq_false_iff,Int.ofNat_lt,Int.ofNat_le,Bool.not_eq_eq_eq_not,Bool.not_true,Bool.not_false] at c2)<;>try simp (disch:=omega) only [go_sem,Nat.reduceEqDiff,Nat.reduceAdd,Nat.reduceSub,Int.reduceAdd,Int.reduceSub,Int.reduceToNat]
   ·split<;>rename_i c3<;>(try simp only [beq_true,beq_false,Bool.not_eq_true',Bool.not_eq_false'] at c3)<;>simp (disch:=omega) only [go_sem,Nat.reduceEqDiff,Nat.reduceAdd,Nat.reduceSub,Int.reduceAdd,Int.reduceSub,Int.reduceToNat,c3]<;>(try simp only [decide_eq_true_eq,decide_eq_false_iff_not,beq_iff_eq,beq_eq_false_iff_ne,bne_iff_ne,bne_eq_false_iff_eq,ne_eq,Decidable.not_not,Bool.and_eq_true,Bool.and_eq_false_iff,Bool.or_eq_true,Bool.or_eq_false_iff,Int.ofNat_lt,Int.ofNat_le,Bool.not_eq_eq_eq_not,Bool.not_true,Bool.not_false] at c3)<;>try simp (disch:=omega) only [go_sem,Nat.reduceEqDiff,Nat.reduceAdd,Nat.reduceSub,Int.reduceAdd,Int.reduceSub,Int.reduceToNat]
    ·have e:=ht c1 c2 (by omega)
     subst e
     try simp (disch:=omega) only [go_sem,Nat.reduceEqDiff,Nat.reduceAdd,Nat.reduceSub,Int.reduceAdd,Int.reduceSub,Int.reduceToNat]
     refine⟨qC,hN2 _ (j+1,m++[v]) (qI 0 27++qI 33 1++qI 28 4) (by (try dsimp only);exact⟨by omega,hvl,hn⟩) (by (try dsimp only);omega) (ab (by rfl) (by rfl) ?_)⟩
     try simp (disch:=omega) only [go_sem,Nat.reduceEqDiff,Nat.reduceAdd,Nat.reduceSub,Int.reduceAdd,Int.reduceSub,Int.reduceToNat]
     try simp [aC]
    have e:=hf3 (by omega)
    subst e
    try simp (disch:=omega) only [go_sem,Nat.reduceEqDiff,Nat.reduceAdd,Nat.reduceSub,Int.reduceAdd,Int.reduceSub,Int.reduceToNat]
    refine⟨qC,hN2 _ (j+1,m1) (qI 0 32) (by (try dsimp only);exact⟨by omega,hm,hn⟩) (by (try dsimp only);omega) (ab (by rfl) (by rfl) ?_)⟩
    try simp (disch:=omega) only [go_sem,Nat.reduceEqDiff,Nat.reduceAdd,Nat.reduceSub,Int.reduceAdd,Int.reduceSub,Int.reduceToNat]
   have e:=hf2 c2
   subst e
   try simp (disch:=omega) only [go_sem,Nat.reduceEqDiff,Nat.reduceAdd,Nat.reduceSub,Int.reduceAdd,Int.reduceSub,Int.reduceToNat]
   refine⟨qC,hN2 _ (j+1,m1) (qI 0 32) (by (try dsimp only);exact⟨by omega,hm,hn⟩) (by (try dsimp only);omega) (ab (by rfl) (by rfl) ?_)⟩
   try simp (disch:=omega) only [go_sem,Nat.reduceEqDiff,Nat.reduceAdd,Nat.reduceSub,Int.reduceAdd,Int.reduceSub,Int.reduceToNat]
  have e:=hf1 c1
  subst e
  try simp (disch:=omega) only [go_sem,Nat.reduceEqDiff,Nat.reduceAdd,Nat.reduceSub,Int.reduceAdd,Int.reduceSub,Int.reduceToNat]
  refine⟨qC,hN2 _ (j+1,m1) (qI 0 32) (by (try dsimp only);exact⟨by omega,hm,hn⟩) (by (try dsimp only);omega) (ab (by rfl) (by rfl) ?_)⟩
  try simp (disch:=omega) only [go_sem,Nat.reduceEqDiff,Nat.reduceAdd,Nat.reduceSub,Int.reduceAdd,Int.reduceSub,Int.reduceToNat]
 obtain⟨g1,hg1⟩:∃ g,g=vO bag x:=⟨_,rfl⟩
 have e:c_ 1 (⟨w.a,w.b,bag,past,wA,wB,rA,rB,⟨keys,tags⟩,nums,nsA,nsB⟩:WorldD) x=(⟨w.a,w.b,g1,p1,wA,wB,rA,rB,⟨keys,tags⟩,nums,q1,nsB⟩:WorldD):=by
  rw [c_,if_neg b4,jm]
  dsimp only
  rw [hoth,←hp1,←hq1,←hg1]
 rw [e] at hu
 have hS1:=dE (side:=1) (x:=x) hS
 rw [e] at hS1
 split<;>rename_i b5<;>(try simp only [beq_true,beq_false,Bool.not_eq_true',Bool.not_eq_false'] at b5)<;>simp (disch:=omega) only [go_sem,Nat.reduceEqDiff,Nat.reduceAdd,Nat.reduceSub,Int.reduceAdd,Int.reduceSub,Int.reduceToNat,b5]<;>(try simp only [decide_eq_true_eq,decide_eq_false_iff_not,beq_iff_eq,beq_eq_false_iff_ne,bne_iff_ne,bne_eq_false_iff_eq,ne_eq,Decidable.not_not,Bool.and_eq_true,Bool.and_eq_false_iff,Bool.or_eq_true,Bool.or_eq_false_iff,Int.ofNat_lt,Int.ofNat_le,Bool.not_eq_eq_eq_not,Bool.not_true,Bool.not_false] at b5)<;>try simp (disch:=omega) only [go_sem,Nat.reduceEqDiff,Nat.reduceAdd,Nat.reduceSub,Int.reduceAdd,Int.reduceSub,Int.reduceToNat]
 ·rw [vP (by omega)] at hg1
  subst hg1
  refine ar (qU [0,11]) (by kernel_rfl) (qC) (by kernel_rfl) (aa 400 ?_)
  simp (disch:=omega) only [go_sem,Nat.reduceEqDiff,Nat.reduceAdd,Nat.reduceSub,Int.reduceAdd,Int.reduceSub,Int.reduceToNat]
  refine⟨qC,ac 400 ?_⟩
  try simp (disch:=omega) only [go_sem,Nat.reduceEqDiff,Nat.reduceAdd,Nat.reduceSub,Int.reduceAdd,Int.reduceSub,Int.reduceToNat]
  refine⟨qC,hN _ (i+1,(⟨w.a,w.b,(bag++[x]),p1,wA,wB,rA,rB,⟨keys,tags⟩,nums,q1,nsB⟩:WorldD)) (qI 0 23++qI 32 1++qI 24 6) (by (try dsimp only);exact⟨by omega,rfl,rfl,hS1,hu⟩) (by (try dsimp only);omega) (ab (by rfl) (by rfl) ?_)⟩
  try simp (disch:=omega) only [go_sem,Nat.reduceEqDiff,Nat.reduceAdd,Nat.reduceSub,Int.reduceAdd,Int.reduceSub,Int.reduceToNat]
  try simp [LetterD.cs]
 rw [vQ (by omega)] at hg1
 subst hg1
 try simp (disch:=omega) only [go_sem,Nat.reduceEqDiff,Nat.reduceAdd,Nat.reduceSub,Int.reduceAdd,Int.reduceSub,Int.reduceToNat]
 refine⟨qC,hN _ (i+1,(⟨w.a,w.b,g1,p1,wA,wB,rA,rB,⟨keys,tags⟩,nums,q1,nsB⟩:WorldD)) (qI 0 30) (by (try dsimp only);exact⟨by omega,rfl,rfl,hS1,hu⟩) (by (try dsimp only);omega) (ab (by rfl) (by rfl) ?_)⟩
 try simp (disch:=omega) only [go_sem,Nat.reduceEqDiff,Nat.reduceAdd,Nat.reduceSub,Int.reduceAdd,Int.reduceSub,Int.reduceToNat]
theorem eN (w:WorldD) (l:List LetterD) (hw:SmallP2 w) (hl:l.length≤1048576):ae Tryz.prog 155 [.sc (.pt 21 0 0),.sc (.int .i64 2),.sc (.sl 22 0 l.length)]
  (dK w false++(dL w true++[some ⟨[w.cs 0],61,51,true,false⟩,some ⟨l.map LetterD.cs,19,91,false,true⟩])) (.tu [])
  (dK w false++([none,none,none,none,none,none,none,some ⟨[(c7 (aq 2 w l) 0 1 2 3 4 5 6 7 8 9 10 11 12 13 23 24 25 26 27 28 29)],61,51,true,false⟩,some ⟨l.map LetterD.cs,19,91,false,true⟩]++dL (aq 2 w l) true)):=by
 obtain⟨R,hR⟩:∃ R,R=aq 2 w l:=⟨_,rfl⟩
 rw [←hR]
 have hl2:l.length≤9223372036854775807:=by omega
 refine aN Tryz.func155 (by kernel_rfl) rfl fun E hE=>ac 400 ?_
 simp (disch:=omega) only [Tryz.ntmps155,Tryz.results155,go_sem,Nat.reduceEqDiff,Nat.reduceAdd,Nat.reduceSub,Int.reduceAdd,Int.reduceSub,Int.reduceToNat]
 refine cE 23 hE (fun s (y:Nat×WorldD)=>s.at (qU [2,1,7,1,9,1,13,145]) [(12,.sc (.int .i64 (y.1:Nat)))] (dK w false++([none,none,none,none,none,none,none,some ⟨[(c7 y.2 0 1 2 3 4 5 6 7 8 9 10 11 12 13 23 24 25 26 27 28 29)],61,51,true,false⟩,some ⟨l.map LetterD.cs,19,91,false,true⟩]++(dL y.2 true)))) (fun (y:Nat×WorldD)=>y.1≤l.length∧y.2.a=w.a∧y.2.b=w.b∧SmallP2 y.2∧R=aq 2 y.2 (l.drop y.1)) (fun (y:Nat×WorldD)=>l.length - y.1) (0,w) (qI 0 23++qI 14 7) (qC) (⟨Nat.zero_le _,rfl,rfl,hw,hR⟩) (ab (by rfl) (by rfl) ?_) fun y hy N hN=>?_
 ·try simp (disch:=omega) only [go_sem,Nat.reduceEqDiff,Nat.reduceAdd,Nat.reduceSub,Int.reduceAdd,Int.reduceSub,Int.reduceToNat]
 obtain⟨i,u⟩:=y
 obtain⟨hi,ha,hb,hS,hu⟩:=hy
 obtain⟨ua,ub,bag,past,wA,wB,rA,rB,known,nums,nsA,nsB⟩:=u
 obtain⟨keys,tags⟩:=known
 dsimp only at hi ha hb hu
 subst ha hb
 have s1:=hS.bag
 have s2:=hS.past
 have s3:=hS.keys
 have s4:=hS.tags
 have s5:=hS.nums
 have s6:=hS.ansA
 have s7:=hS.ansB
 dsimp only at s1 s2 s3 s4 s5 s6 s7
 refine dm 21 400 ?_
 try simp (disch:=omega) only [go_sem,Nat.reduceEqDiff,Nat.reduceAdd,Nat.reduceSub,Int.reduceAdd,Int.reduceSub,Int.reduceToNat,Nat.reduceBEq]
 split<;>rename_i h<;>(try simp only [decide_eq_true_eq,decide_eq_false_iff_not,Int.ofNat_lt] at h)
 rotate_left
 ·have e:i=l.length:=by omega
  subst e
  rw [kU (Nat.le_refl _)] at hu
  subst hu
  try simp (disch:=omega) only [go_sem,Nat.reduceEqDiff,Nat.reduceAdd,Nat.reduceSub,Int.reduceAdd,Int.reduceSub,Int.reduceToNat,Nat.reduceBEq]
  refine aA (qI 0 30) (qC) _ (by simp only [go_sem];rfl) (by rfl) (by rfl) ?_
  simp (disch:=omega) only [go_sem,Nat.reduceEqDiff,Nat.reduceAdd,Nat.reduceSub,Int.reduceAdd,Int.reduceSub,Int.reduceToNat,Nat.reduceBEq]
 rw [jK h] at hu
 generalize hx:l[i]=x at hu
 have hget:=ao (enc:=LetterD.cs) h
 rw [hx] at hget
 try simp (disch:=omega) only [go_sem,Nat.reduceEqDiff,Nat.reduceAdd,Nat.reduceSub,Int.reduceAdd,Int.reduceSub,Int.reduceToNat,Nat.reduceBEq,hget]
 obtain⟨p1,hp1⟩:∃ p,p=nb past x:=⟨_,rfl⟩
 refine dP 23 hE (fun s=>s.at (qU [13,19]) [] (dK w false++([none,none,none,none,none,none,none,some ⟨[(c7 (⟨w.a,w.b,bag,p1,wA,wB,rA,rB,⟨keys,tags⟩,nums,nsA,nsB⟩:WorldD) 0 1 2 3 4 5 6 7 8 9 10 11 12 13 23 24 25 26 27 28 29)],61,51,true,false⟩,some ⟨l.map LetterD.cs,19,91,false,true⟩]++(dL (⟨w.a,w.b,bag,p1,wA,wB,rA,rB,⟨keys,tags⟩,nums,nsA,nsB⟩:WorldD) true++[some ⟨[x.cs],19,91,true,false⟩])))) (qC) (by rfl) (fun N hN=>ac 401 ?_) (dm 34 400 ?_)
 ·try simp (disch:=omega) only [go_sem,Nat.reduceEqDiff,Nat.reduceAdd,Nat.reduceSub,Int.reduceAdd,Int.reduceSub,Int.reduceToNat,Nat.reduceBEq]
  split<;>rename_i b1<;>(try simp only [beq_true,beq_false,Bool.not_eq_true',Bool.not_eq_false'] at b1)<;>simp (disch:=omega) only [go_sem,Nat.reduceEqDiff,Nat.reduceAdd,Nat.reduceSub,Int.reduceAdd,Int.reduceSub,Int.reduceToNat,Nat.reduceBEq,b1]<;>(try simp only [decide_eq_true_eq,decide_eq_false_iff_not,beq_iff_eq,beq_eq_false_iff_ne,bne_iff_ne,bne_eq_false_iff_eq,ne_eq,Decidable.not_not,Bool.and_eq_true,Bool.and_eq_false_iff,Bool.or_eq_true,Bool.or_eq_false_iff,Int.ofNat_lt,Int.ofNat_le,Bool.not_eq_eq_eq_not,Bool.not_true,Bool.not_false] at b1)<;>try simp (disch:=omega) only [go_sem,Nat.reduceEqDiff,Nat.reduceAdd,Nat.reduceSub,Int.reduceAdd,Int.reduceSub,Int.reduceToNat,Nat.reduceBEq]
  ·rw [pw (by omega)] at hp1
   subst hp1
   refine ar (qU [0,11]) (by kernel_rfl) (qC) (by kernel_rfl) (aa 400 ?_)
   simp (disch:=omega) only [go_sem,Nat.reduceEqDiff,Nat.reduceAdd,Nat.reduceSub,Int.reduceAdd,Int.reduceSub,Int.reduceToNat,Nat.reduceBEq]
   refine⟨qC,dm 34 400 ?_⟩
   try simp (disch:=omega) only [go_sem,Nat.reduceEqDiff,Nat.reduceAdd,Nat.reduceSub,Int.reduceAdd,Int.reduceSub,Int.reduceToNat,Nat.reduceBEq]
   refine⟨qC,hN _ (qI 0 24++qI 32 1++qI 25 6) (ab (by rfl) (by rfl) ?_)⟩
   simp (disch:=omega) only [go_sem,Nat.reduceEqDiff,Nat.reduceAdd,Nat.reduceSub,Int.reduceAdd,Int.reduceSub,Int.reduceToNat,Nat.reduceBEq]
   try simp [LetterD.cs]
  rw [px (by omega)] at hp1
  subst hp1
  try simp (disch:=omega) only [go_sem,Nat.reduceEqDiff,Nat.reduceAdd,Nat.reduceSub,Int.reduceAdd,Int.reduceSub,Int.reduceToNat,Nat.reduceBEq]
  refine⟨qC,hN _ (qI 0 31) (ab (by rfl) (by rfl) ?_)⟩
  simp (disch:=omega) only [go_sem,Nat.reduceEqDiff,Nat.reduceAdd,Nat.reduceSub,Int.reduceAdd,Int.reduceSub,Int.reduceToNat,Nat.reduceBEq]
 try simp (disch:=omega) only [go_sem,Nat.reduceEqDiff,Nat.reduceAdd,Nat.reduceSub,Int.reduceAdd,Int.reduceSub,Int.reduceToNat,Nat.reduceBEq]
 obtain⟨q1,hq1⟩:∃ q,q=ma nsB (lj 2 2 x) w.b.now:=⟨_,rfl⟩
 refine dP 23 hE (fun s=>s.at (qU [13,70]) [] (dK w false++([none,none,none,none,none,none,none,some ⟨[(c7 (⟨w.a,w.b,bag,p1,wA,wB,rA,rB,⟨keys,tags⟩,nums,nsA,q1⟩:WorldD) 0 1 2 3 4 5 6 7 8 9 10 11 12 13 23 24 25 26 27 28 29)],61,51,true,false⟩,some ⟨l.map LetterD.cs,19,91,false,true⟩]++(dL (⟨w.a,w.b,bag,p1,wA,wB,rA,rB,⟨keys,tags⟩,nums,nsA,q1⟩:WorldD) true++[some ⟨[x.cs],19,91,true,false⟩])))) (qC) (by rfl) (fun N hN=>ac 401 ?_) (ac 400 ?_)
 ·try simp (disch:=omega) only [go_sem,Nat.reduceEqDiff,Nat.reduceAdd,Nat.reduceSub,Int.reduceAdd,Int.reduceSub,Int.reduceToNat]
  split<;>rename_i b2<;>(try simp only [beq_true,beq_false,Bool.not_eq_true',Bool.not_eq_false'] at b2)<;>simp (disch:=omega) only [go_sem,Nat.reduceEqDiff,Nat.reduceAdd,Nat.reduceSub,Int.reduceAdd,Int.reduceSub,Int.reduceToNat,b2]<;>(try simp only [decide_eq_true_eq,decide_eq_false_iff_not,beq_iff_eq,beq_eq_false_iff_ne,bne_iff_ne,bne_eq_false_iff_eq,ne_eq,Decidable.not_not,Bool.and_eq_true,Bool.and_eq_false_iff,Bool.or_eq_true,Bool.or_eq_false_iff,Int.ofNat_lt,Int.ofNat_le,Bool.not_eq_eq_eq_not,Bool.not_true,Bool.not_false] at b2)<;>try simp (disch:=omega) only [go_sem,Nat.reduceEqDiff,Nat.reduceAdd,Nat.reduceSub,Int.reduceAdd,Int.reduceSub,Int.reduceToNat]
  ·rw [vV b2] at hq1
   split<;>rename_i b3<;>(try simp only [beq_true,beq_false,Bool.not_eq_true',Bool.not_eq_false'] at b3)<;>simp (disch:=omega) only [go_sem,Nat.reduceEqDiff,Nat.reduceAdd,Nat.reduceSub,Int.reduceAdd,Int.reduceSub,Int.reduceToNat,b3]<;>(try simp only [decide_eq_true_eq,decide_eq_false_iff_not,beq_iff_eq,beq_eq_false_iff_ne,bne_iff_ne,bne_eq_false_iff_eq,ne_eq,Decidable.not_not,Bool.and_eq_true,Bool.and_eq_false_iff,Bool.or_eq_true,Bool.or_eq_false_iff,Int.ofNat_lt,Int.ofNat_le,Bool.not_eq_eq_eq_not,Bool.not_true,Bool.not_false] at b3)<;>try simp (disch:=omega) only [go_sem,Nat.reduceEqDiff,Nat.reduceAdd,Nat.reduceSub,Int.reduceAdd,Int.reduceSub,Int.reduceToNat]
   ·rw [vR (by omega)] at hq1
    subst hq1
    refine ar (qU [0,15]) (by kernel_rfl) (qC) (by kernel_rfl) (aa 400 ?_)
    simp (disch:=omega) only [go_sem,Nat.reduceEqDiff,Nat.reduceAdd,Nat.reduceSub,Int.reduceAdd,Int.reduceSub,Int.reduceToNat]
    refine⟨qC,ac 400 ?_⟩
    try simp (disch:=omega) only [go_sem,Nat.reduceEqDiff,Nat.reduceAdd,Nat.reduceSub,Int.reduceAdd,Int.reduceSub,Int.reduceToNat]
    refine⟨qC,hN _ (qI 0 29++qI 32 1++qI 30 1) (ab (by rfl) (by rfl) ?_)⟩
    simp (disch:=omega) only [go_sem,Nat.reduceEqDiff,Nat.reduceAdd,Nat.reduceSub,Int.reduceAdd,Int.reduceSub,Int.reduceToNat]
    try simp [aC]
   rw [vS (by omega)] at hq1
   subst hq1
   try simp (disch:=omega) only [go_sem,Nat.reduceEqDiff,Nat.reduceAdd,Nat.reduceSub,Int.reduceAdd,Int.reduceSub,Int.reduceToNat]
   refine⟨qC,hN _ (qI 0 31) (ab (by rfl) (by rfl) ?_)⟩
   simp (disch:=omega) only [go_sem,Nat.reduceEqDiff,Nat.reduceAdd,Nat.reduceSub,Int.reduceAdd,Int.reduceSub,Int.reduceToNat]
  rw [vT b2,iX] at hq1
  subst hq1
  try simp (disch:=omega) only [go_sem,Nat.reduceEqDiff,Nat.reduceAdd,Nat.reduceSub,Int.reduceAdd,Int.reduceSub,Int.reduceToNat]
  refine⟨qC,hN _ (qI 0 31) (ab (by rfl) (by rfl) ?_)⟩
  simp (disch:=omega) only [go_sem,Nat.reduceEqDiff,Nat.reduceAdd,Nat.reduceSub,Int.reduceAdd,Int.reduceSub,Int.reduceToNat]
 try simp (disch:=omega) only [go_sem,Nat.reduceEqDiff,Nat.reduceAdd,Nat.reduceSub,Int.reduceAdd,Int.reduceSub,Int.reduceToNat]
 refine al (qC) (dC x.to) [] qM (by rfl) (ac 400 ?_)
 simp (disch:=omega) only [go_sem,Nat.reduceEqDiff,Nat.reduceAdd,Nat.reduceSub,Int.reduceAdd,Int.reduceSub,Int.reduceToNat]
 have hoth:ma nsA (lj 2 1 x) w.a.now=nsA:=by rw [vU (by decide),iX]
 split<;>rename_i b4<;>(try simp only [beq_true,beq_false,Bool.not_eq_true',Bool.not_eq_false'] at b4)<;>simp (disch:=omega) only [go_sem,Nat.reduceEqDiff,Nat.reduceAdd,Nat.reduceSub,Int.reduceAdd,Int.reduceSub,Int.reduceToNat,b4]<;>(try simp only [decide_eq_true_eq,decide_eq_false_iff_not,beq_iff_eq,beq_eq_false_iff_ne,bne_iff_ne,bne_eq_false_iff_eq,ne_eq,Decidable.not_not,Bool.and_eq_true,Bool.and_eq_false_iff,Bool.or_eq_true,Bool.or_eq_false_iff,Int.ofNat_lt,Int.ofNat_le,Bool.not_eq_eq_eq_not,Bool.not_true,Bool.not_false] at b4)<;>try simp (disch:=omega) only [go_sem,Nat.reduceEqDiff,Nat.reduceAdd,Nat.reduceSub,Int.reduceAdd,Int.reduceSub,Int.reduceToNat]
 ·have hK:=ru ⟨keys,tags⟩ x.tag (by dsimp only;omega) (by dsimp only;omega)
  have hky:(dY ⟨keys,tags⟩ x.tag).keys.length≤1048576:=by rw [iB];exact s3
  have hkt:(dY ⟨keys,tags⟩ x.tag).tags.length≤1048576:=kC s4
  obtain⟨kk,hkk⟩:∃ k,k=dY ⟨keys,tags⟩ x.tag:=⟨_,rfl⟩
  rw [←hkk] at hK hky hkt
  obtain⟨k1,t1⟩:=kk
  dsimp only at hky hkt
  refine ar (qU [0,11]) (by kernel_rfl) (qC) (by kernel_rfl) (aa 400 ?_)
  simp (disch:=omega) only [go_sem,Nat.reduceEqDiff,Nat.reduceAdd,Nat.reduceSub,Int.reduceAdd,Int.reduceSub,Int.reduceToNat]
  refine am (qC) (hK) (qI 25 2) qM (by rfl) (by rfl) (aa 400 ?_)
  simp (disch:=omega) only [go_sem,Nat.reduceEqDiff,Nat.reduceAdd,Nat.reduceSub,Int.reduceAdd,Int.reduceSub,Int.reduceToNat]
  refine⟨qC,ac 400 ?_⟩
  try simp (disch:=omega) only [go_sem,Nat.reduceEqDiff,Nat.reduceAdd,Nat.reduceSub,Int.reduceAdd,Int.reduceSub,Int.reduceToNat]
  obtain⟨n1,hn1⟩:∃ n,n=(iY x).foldl dk nums:=⟨_,rfl⟩
  have hn1l:n1.length≤1048576:=by rw [hn1];exact d_ (d_ (d_ s5))
  refine cE 23 hE (fun s (z:Nat×List Int)=>s.at (qU [2,1,9,1,14,7,22,12,35,9,45,23,69,14,84,20,107,33,141,17]) [(106,.sc (.int .i64 (z.1:Nat))),(104,.sc (.sl 31 0 3))] (dK w false++([none,none,none,none,none,none,none,some ⟨[(c7 (⟨w.a,w.b,bag,p1,wA,wB,rA,rB,⟨k1,t1⟩,z.2,nsA,q1⟩:WorldD) 0 1 2 3 4 5 6 7 8 9 10 11 12 13 23 24 25 26 27 28 29)],61,51,true,false⟩,some ⟨l.map LetterD.cs,19,91,false,true⟩]++(dL (⟨w.a,w.b,bag,p1,wA,wB,rA,rB,⟨k1,t1⟩,z.2,nsA,q1⟩:WorldD) true++[some ⟨[x.cs],19,91,true,false⟩]++[some ⟨[[.int .i64 x.nonce],[.int .i64 x.give],[.int .i64 x.sgn]],1,3,true,true⟩])))) (fun (z:Nat×List Int)=>z.1≤3∧z.2.length≤1048576∧n1=((iY x).drop z.1).foldl dk z.2) (fun (z:Nat×List Int)=>3 - z.1) (0,nums) (qI 0 25++qI 31 2++qI 27 4++qI 33 1) (qC) (⟨Nat.zero_le _,s5,hn1⟩) (ab (by rfl) (by rfl) ?_) fun z hz N2 hN2=>?_
  ·try simp (disch:=omega) only [go_sem,Nat.reduceEqDiff,Nat.reduceAdd,Nat.reduceSub,Int.reduceAdd,Int.reduceSub,Int.reduceToNat]
  obtain⟨j,m⟩:=z
  obtain⟨hj,hm,hn⟩:=hz
  dsimp only at hj hm hn
  refine ac 400 ?_
  try simp (disch:=omega) only [go_sem,Nat.reduceEqDiff,Nat.reduceAdd,Nat.reduceSub,Int.reduceAdd,Int.reduceSub,Int.reduceToNat]
  split<;>rename_i h5<;>(try simp only [decide_eq_true_eq,decide_eq_false_iff_not,Int.ofNat_lt] at h5)
  rotate_left
  ·have e:j=3:=by omega
   subst e
   rw [uA (by simp [iY])] at hn
   subst hn
   try simp (disch:=omega) only [go_sem,Nat.reduceEqDiff,Nat.reduceAdd,Nat.reduceSub,Int.reduceAdd,Int.reduceSub,Int.reduceToNat]
   refine⟨qC,hN _ (i+1,(⟨w.a,w.b,bag,p1,wA,wB,rA,rB,⟨k1,t1⟩,n1,nsA,q1⟩:WorldD)) (qI 0 30) (⟨by omega,rfl,rfl,?_,?_⟩) (by (try dsimp only);omega) (ab (by rfl) (by rfl) ?_)⟩
   ·have e:c_ 2 (⟨w.a,w.b,bag,past,wA,wB,rA,rB,⟨keys,tags⟩,nums,nsA,nsB⟩:WorldD) x=(⟨w.a,w.b,bag,p1,wA,wB,rA,rB,⟨k1,t1⟩,n1,nsA,q1⟩:WorldD):=by
     rw [c_,if_pos b4,oR,jm]
     dsimp only
     rw [←hkk,hoth,←hp1,←hq1,hn1]
     rfl
    rw [←e]
    exact dE hS
   ·have e:c_ 2 (⟨w.a,w.b,bag,past,wA,wB,rA,rB,⟨keys,tags⟩,nums,nsA,nsB⟩:WorldD) x=(⟨w.a,w.b,bag,p1,wA,wB,rA,rB,⟨k1,t1⟩,n1,nsA,q1⟩:WorldD):=by
     rw [c_,if_pos b4,oR,jm]
     dsimp only
     rw [←hkk,hoth,←hp1,←hq1,hn1]
     rfl
    rw [←e]
    exact hu
   try simp (disch:=omega) only [go_sem,Nat.reduceEqDiff,Nat.reduceAdd,Nat.reduceSub,Int.reduceAdd,Int.reduceSub,Int.reduceToNat]
  have h6:j < (iY x).length:=by simp only [iY,List.length_cons,List.length_nil];omega
  rw [rH h6] at hn
  generalize hv:(iY x)[j]=v at hn
  have hg3:([[.int .i64 x.nonce],[.int .i64 x.give],[.int .i64 x.sgn]]:List (List Sc))[j]? =some (aC v):=by
   rw [←hv]
   rw [show ([[.int .i64 x.nonce],[.int .i64 x.give],[.int .i64 x.sgn]]:List (List Sc))=(iY x).map aC from rfl]
   exact ao h6
  simp only [aC] at hg3
  have hH:=eH m v hm
  have ht:=zd (l:=m) (n:=v)
  have hf1:=vL (l:=m) (n:=v)
  have hf2:=vM (l:=m) (n:=v)
  have hf3:=vN (l:=m) (n:=v)
  have hvl:(dk m v).length≤1048576:=d_ hm
  generalize dk m v=m1 at*
  try simp (disch:=omega) only [go_sem,Nat.reduceEqDiff,Nat.reduceAdd,Nat.reduceSub,Int.reduceAdd,Int.reduceSub,Int.reduceToNat,hg3]
  split<;>rename_i c1<;>(try simp only [beq_true,beq_false,Bool.not_eq_true',Bool.not_eq_false'] at c1)<;>simp (disch:=omega) only [go_sem,Nat.reduceEqDiff,Nat.reduceAdd,Nat.reduceSub,Int.reduceAdd,Int.reduceSub,Int.reduceToNat,c1]<;>(try simp only [decide_eq_true_eq,decide_eq_false_iff_not,beq_iff_eq,beq_eq_false_iff_ne,bne_iff_ne,bne_eq_false_iff_eq,ne_eq,Decidable.not_not,Bool.and_eq_true,Bool.and_eq_false_iff,Bool.or_eq_true,Bool.or_eq_false_iff,Int.ofNat_lt,Int.ofNat_le,Bool.not_eq_eq_eq_not,Bool.not_true,Bool.not_false] at c1)<;>try simp (disch:=omega) only [go_sem,Nat.reduceEqDiff,Nat.reduceAdd,Nat.reduceSub,Int.reduceAdd,Int.reduceSub,Int.reduceToNat]
  ·refine al (qC) (hH) (qI 27 1) qM (by rfl) (ac 400 ?_)
   simp (disch:=omega) only [go_sem,Nat.reduceEqDiff,Nat.reduceAdd,Nat.reduceSub,Int.reduceAdd,Int.reduceSub,Int.reduceToNat]
   split<;>rename_i c2<;>(try simp only [beq_true,beq_false,Bool.not_eq_true',Bool.not_eq_false'] at c2)<;>simp (disch:=omega) only [go_sem,Nat.reduceEqDiff,Nat.reduceAdd,Nat.reduceSub,Int.reduceAdd,Int.reduceSub,Int.reduceToNat,c2]<;>(try simp only [decide_eq_true_eq,decide_eq_false_iff_not,beq_iff_eq,beq_eq_false_iff_ne,bne_iff_ne,bne_eq_false_iff_eq,ne_eq,Decidable.not_not,Bool.and_eq_true,Bool.and_eq_false_iff,Bool.or_eq_true,Bool.or_eq_false_iff,Int.ofNat_lt,Int.ofNat_le,Bool.not_eq_eq_eq_not,Bool.not_true,Bool.not_false] at c2)<;>try simp (disch:=omega) only [go_sem,Nat.reduceEqDiff,Nat.reduceAdd,Nat.reduceSub,Int.reduceAdd,Int.reduceSub,Int.reduceToNat]
   ·split<;>rename_i c3<;>(try simp only [beq_true,beq_false,Bool.not_eq_true',Bool.not_eq_false'] at c3)<;>simp (disch:=omega) only [go_sem,Nat.reduceEqDiff,Nat.reduceAdd,Nat.reduceSub,Int.reduceAdd,Int.reduceSub,Int.reduceToNat,c3]<;>(try simp only [decide_eq_true_eq,decide_eq_false_iff_not,beq_iff_eq,beq_eq_false_iff_ne,bne_iff_ne,bne_eq_false_iff_eq,ne_eq,Decidable.not_not,Bool.and_eq_true,Bool.and_eq_false_iff,Bool.or_eq_true,Bool.or_eq_false_iff,Int.ofNat_lt,Int.ofNat_le,Bool.not_eq_eq_eq_not,Bool.not_true,Bool.not_false] at c3)<;>try simp (disch:=omega) only [go_sem,Nat.reduceEqDiff,Nat.reduceAdd,Nat.reduceSub,Int.reduceAdd,Int.reduceSub,Int.reduceToNat]
    ·have e:=ht c1 c2 (by omega)
     subst e
     try simp (disch:=omega) only [go_sem,Nat.reduceEqDiff,Nat.reduceAdd,Nat.reduceSub,Int.reduceAdd,Int.reduceSub,Int.reduceToNat]
     refine⟨qC,hN2 _ (j+1,m++[v]) (qI 0 27++qI 33 1++qI 28 4) (by (try dsimp only);exact⟨by omega,hvl,hn⟩) (by (try dsimp only);omega) (ab (by rfl) (by rfl) ?_)⟩
     try simp (disch:=omega) only [go_sem,Nat.reduceEqDiff,Nat.reduceAdd,Nat.reduceSub,Int.reduceAdd,Int.reduceSub,Int.reduceToNat]
     try simp [aC]
    have e:=hf3 (by omega)
    subst e
    try simp (disch:=omega) only [go_sem,Nat.reduceEqDiff,Nat.reduceAdd,Nat.reduceSub,Int.reduceAdd,Int.reduceSub,Int.reduceToNat]
    refine⟨qC,hN2 _ (j+1,m1) (qI 0 32) (by (try dsimp only);exact⟨by omega,hm,hn⟩) (by (try dsimp only);omega) (ab (by rfl) (by rfl) ?_)⟩
    try simp (disch:=omega) only [go_sem,Nat.reduceEqDiff,Nat.reduceAdd,Nat.reduceSub,Int.reduceAdd,Int.reduceSub,Int.reduceToNat]
   have e:=hf2 c2
   subst e
   try simp (disch:=omega) only [go_sem,Nat.reduceEqDiff,Nat.reduceAdd,Nat.reduceSub,Int.reduceAdd,Int.reduceSub,Int.reduceToNat]
   refine⟨qC,hN2 _ (j+1,m1) (qI 0 32) (by (try dsimp only);exact⟨by omega,hm,hn⟩) (by (try dsimp only);omega) (ab (by rfl) (by rfl) ?_)⟩
   try simp (disch:=omega) only [go_sem,Nat.reduceEqDiff,Nat.reduceAdd,Nat.reduceSub,Int.reduceAdd,Int.reduceSub,Int.reduceToNat]
  have e:=hf1 c1
  subst e
  try simp (disch:=omega) only [go_sem,Nat.reduceEqDiff,Nat.reduceAdd,Nat.reduceSub,Int.reduceAdd,Int.reduceSub,Int.reduceToNat]
  refine⟨qC,hN2 _ (j+1,m1) (qI 0 32) (by (try dsimp only);exact⟨by omega,hm,hn⟩) (by (try dsimp only);omega) (ab (by rfl) (by rfl) ?_)⟩
  try simp (disch:=omega) only [go_sem,Nat.reduceEqDiff,Nat.reduceAdd,Nat.reduceSub,Int.reduceAdd,Int.reduceSub,Int.reduceToNat]
 obtain⟨g1,hg1⟩:∃ g,g=vO bag x:=⟨_,rfl⟩
 have e:c_ 2 (⟨w.a,w.b,bag,past,wA,wB,rA,rB,⟨keys,tags⟩,nums,nsA,nsB⟩:WorldD) x=(⟨w.a,w.b,g1,p1,wA,wB,rA,rB,⟨keys,tags⟩,nums,nsA,q1⟩:WorldD):=by
  rw [c_,if_neg b4,jm]
  dsimp only
  rw [hoth,←hp1,←hq1,←hg1]
 rw [e] at hu
 have hS1:=dE (side:=2) (x:=x) hS
 rw [e] at hS1
 split<;>rename_i b5<;>(try simp only [beq_true,beq_false,Bool.not_eq_true',Bool.not_eq_false'] at b5)<;>simp (disch:=omega) only [go_sem,Nat.reduceEqDiff,Nat.reduceAdd,Nat.reduceSub,Int.reduceAdd,Int.reduceSub,Int.reduceToNat,b5]<;>(try simp only [decide_eq_true_eq,decide_eq_false_iff_not,beq_iff_eq,beq_eq_false_iff_ne,bne_iff_ne,bne_eq_false_iff_eq,ne_eq,Decidable.not_not,Bool.and_eq_true,Bool.and_eq_false_iff,Bool.or_eq_true,Bool.or_eq_false_iff,Int.ofNat_lt,Int.ofNat_le,Bool.not_eq_eq_eq_not,Bool.not_true,Bool.not_false] at b5)<;>try simp (disch:=omega) only [go_sem,Nat.reduceEqDiff,Nat.reduceAdd,Nat.reduceSub,Int.reduceAdd,Int.reduceSub,Int.reduceToNat]
 ·rw [vP (by omega)] at hg1
  subst hg1
  refine ar (qU [0,11]) (by kernel_rfl) (qC) (by kernel_rfl) (aa 400 ?_)
  simp (disch:=omega) only [go_sem,Nat.reduceEqDiff,Nat.reduceAdd,Nat.reduceSub,Int.reduceAdd,Int.reduceSub,Int.reduceToNat]
  refine⟨qC,ac 400 ?_⟩
  try simp (disch:=omega) only [go_sem,Nat.reduceEqDiff,Nat.reduceAdd,Nat.reduceSub,Int.reduceAdd,Int.reduceSub,Int.reduceToNat]
  refine⟨qC,hN _ (i+1,(⟨w.a,w.b,(bag++[x]),p1,wA,wB,rA,rB,⟨keys,tags⟩,nums,nsA,q1⟩:WorldD)) (qI 0 23++qI 32 1++qI 24 6) (by (try dsimp only);exact⟨by omega,rfl,rfl,hS1,hu⟩) (by (try dsimp only);omega) (ab (by rfl) (by rfl) ?_)⟩
  try simp (disch:=omega) only [go_sem,Nat.reduceEqDiff,Nat.reduceAdd,Nat.reduceSub,Int.reduceAdd,Int.reduceSub,Int.reduceToNat]
  try simp [LetterD.cs]
 rw [vQ (by omega)] at hg1
 subst hg1
 try simp (disch:=omega) only [go_sem,Nat.reduceEqDiff,Nat.reduceAdd,Nat.reduceSub,Int.reduceAdd,Int.reduceSub,Int.reduceToNat]
 refine⟨qC,hN _ (i+1,(⟨w.a,w.b,g1,p1,wA,wB,rA,rB,⟨keys,tags⟩,nums,nsA,q1⟩:WorldD)) (qI 0 30) (by (try dsimp only);exact⟨by omega,rfl,rfl,hS1,hu⟩) (by (try dsimp only);omega) (ab (by rfl) (by rfl) ?_)⟩
 try simp (disch:=omega) only [go_sem,Nat.reduceEqDiff,Nat.reduceAdd,Nat.reduceSub,Int.reduceAdd,Int.reduceSub,Int.reduceToNat]
end
section
open Go.RowKit
theorem dH (w:WorldD) (l:List LetterD) (hw:SmallW w) (hl:l.length≤1048576):ae Tryz.prog 123 [.ag (w.cs 0),.sc (.int .i64 1),.sc (.sl 21 0 l.length)]
  (w.hp false++[some ⟨l.map LetterD.cs,19,91,false,true⟩]) (.ag ((aq 1 w l).cs 22)) (w.hp false++([some ⟨l.map LetterD.cs,19,91,false,true⟩]++(aq 1 w l).hp true)):=by
 obtain⟨R,hR⟩:∃ R,R=aq 1 w l:=⟨_,rfl⟩
 rw [←hR]
 have hl2:l.length≤9223372036854775807:=by omega
 have hC:=ib w hw
 refine aN Tryz.func123 (by kernel_rfl) rfl fun E hE=>ac 400 ?_
 simp (disch:=omega) only [Tryz.ntmps123,Tryz.results123,go_sem,Nat.reduceEqDiff,Nat.reduceAdd,Nat.reduceSub,Int.reduceAdd,Int.reduceSub,Int.reduceToNat]
 refine al (qC) (hC) (qI 0 21) qM (by rfl) (ac 400 ?_)
 simp (disch:=omega) only [go_sem,Nat.reduceEqDiff,Nat.reduceAdd,Nat.reduceSub,Int.reduceAdd,Int.reduceSub,Int.reduceToNat]
 refine cE 22 hE (fun s (y:Nat×WorldD)=>s.at (qU [0,1,8,105]) [(7,.sc (.int .i64 (y.1:Nat)))] (((s.hp.take 24).set 22 (some ⟨[(c7 y.2 24 25 26 27 28 29 30 31 32 33 34 35 36 37 38 39 40 41 42 43 44)],61,51,true,false⟩))++(dK w true++(dL y.2 true)))) (fun (y:Nat×WorldD)=>y.1≤l.length∧y.2.a=w.a∧y.2.b=w.b∧SmallP2 y.2∧R=aq 1 y.2 (l.drop y.1)) (fun (y:Nat×WorldD)=>l.length - y.1) (0,w) (qI 0 45) (qC) (⟨Nat.zero_le _,rfl,rfl,hw.rest,hR⟩) (ab (by rfl) (by rfl) ?_) fun y hy N hN=>?_
 ·try simp (disch:=omega) only [go_sem,Nat.reduceEqDiff,Nat.reduceAdd,Nat.reduceSub,Int.reduceAdd,Int.reduceSub,Int.reduceToNat]
 obtain⟨i,u⟩:=y
 obtain⟨hi,ha,hb,hS,hu⟩:=hy
 obtain⟨ua,ub,bag,past,wA,wB,rA,rB,known,nums,nsA,nsB⟩:=u
 obtain⟨keys,tags⟩:=known
 dsimp only at hi ha hb hu
 subst ha hb
 have s1:=hS.bag
 have s2:=hS.past
 have s3:=hS.keys
 have s4:=hS.tags
 have s5:=hS.nums
 have s6:=hS.ansA
 have s7:=hS.ansB
 dsimp only at s1 s2 s3 s4 s5 s6 s7
 refine dm 1006 400 ?_
 try simp (disch:=omega) only [go_sem,Nat.reduceEqDiff,Nat.reduceAdd,Nat.reduceSub,Int.reduceAdd,Int.reduceSub,Int.reduceToNat,Nat.reduceBEq]
 split<;>rename_i h<;>(try simp only [decide_eq_true_eq,decide_eq_false_iff_not,Int.ofNat_lt] at h)
 rotate_left
 ·have e:i=l.length:=by omega
  subst e
  rw [kU (Nat.le_refl _)] at hu
  subst hu
  try simp (disch:=omega) only [go_sem,Nat.reduceEqDiff,Nat.reduceAdd,Nat.reduceSub,Int.reduceAdd,Int.reduceSub,Int.reduceToNat,Nat.reduceBEq]
  refine aA (qI 0 22++qI 24 21) (qC) _ (by simp only [go_sem];rfl) (by rfl) (by rfl) ?_
  simp (disch:=omega) only [go_sem,Nat.reduceEqDiff,Nat.reduceAdd,Nat.reduceSub,Int.reduceAdd,Int.reduceSub,Int.reduceToNat,Nat.reduceBEq]
 rw [jK h] at hu
 generalize hx:l[i]=x at hu
 have hget:=ao (enc:=LetterD.cs) h
 rw [hx] at hget
 try simp (disch:=omega) only [go_sem,Nat.reduceEqDiff,Nat.reduceAdd,Nat.reduceSub,Int.reduceAdd,Int.reduceSub,Int.reduceToNat,Nat.reduceBEq,hget]
 obtain⟨p1,hp1⟩:∃ p,p=nb past x:=⟨_,rfl⟩
 refine dP 22 hE (fun s=>s.at (qU [9,14,25,14]) [] (((s.hp.take 24).set 22 (some ⟨[(c7 (⟨w.a,w.b,bag,p1,wA,wB,rA,rB,⟨keys,tags⟩,nums,nsA,nsB⟩:WorldD) 24 25 26 27 28 29 30 31 32 33 34 35 36 37 38 39 40 41 42 43 44)],61,51,true,false⟩))++(dK w true++(dL (⟨w.a,w.b,bag,p1,wA,wB,rA,rB,⟨keys,tags⟩,nums,nsA,nsB⟩:WorldD) true++[some ⟨[x.cs],19,91,true,false⟩])))) (qC) (by rfl) (fun N hN=>ac 401 ?_) (dm 1008 400 ?_)
 ·try simp (disch:=omega) only [go_sem,Nat.reduceEqDiff,Nat.reduceAdd,Nat.reduceSub,Int.reduceAdd,Int.reduceSub,Int.reduceToNat,Nat.reduceBEq]
  split<;>rename_i b1<;>(try simp only [beq_true,beq_false,Bool.not_eq_true',Bool.not_eq_false'] at b1)<;>simp (disch:=omega) only [go_sem,Nat.reduceEqDiff,Nat.reduceAdd,Nat.reduceSub,Int.reduceAdd,Int.reduceSub,Int.reduceToNat,Nat.reduceBEq,b1]<;>(try simp only [decide_eq_true_eq,decide_eq_false_iff_not,beq_iff_eq,beq_eq_false_iff_ne,bne_iff_ne,bne_eq_false_iff_eq,ne_eq,Decidable.not_not,Bool.and_eq_true,Bool.and_eq_false_iff,Bool.or_eq_true,Bool.or_eq_false_iff,Int.ofNat_lt,Int.ofNat_le,Bool.not_eq_eq_eq_not,Bool.not_true,Bool.not_false] at b1)<;>try simp (disch:=omega) only [go_sem,Nat.reduceEqDiff,Nat.reduceAdd,Nat.reduceSub,Int.reduceAdd,Int.reduceSub,Int.reduceToNat,Nat.reduceBEq]
  ·rw [pw (by omega)] at hp1
   subst hp1
   try simp (disch:=omega) only [go_sem,Nat.reduceEqDiff,Nat.reduceAdd,Nat.reduceSub,Int.reduceAdd,Int.reduceSub,Int.reduceToNat,Nat.reduceBEq]
   refine⟨qC,hN _ (qI 0 39++qI 47 1++qI 40 6) (ab (by rfl) (by rfl) ?_)⟩
   simp (disch:=omega) only [go_sem,Nat.reduceEqDiff,Nat.reduceAdd,Nat.reduceSub,Int.reduceAdd,Int.reduceSub,Int.reduceToNat,Nat.reduceBEq]
   try simp [LetterD.cs]
  rw [px (by omega)] at hp1
  subst hp1
  try simp (disch:=omega) only [go_sem,Nat.reduceEqDiff,Nat.reduceAdd,Nat.reduceSub,Int.reduceAdd,Int.reduceSub,Int.reduceToNat,Nat.reduceBEq]
  refine⟨qC,hN _ (qI 0 46) (ab (by rfl) (by rfl) ?_)⟩
  simp (disch:=omega) only [go_sem,Nat.reduceEqDiff,Nat.reduceAdd,Nat.reduceSub,Int.reduceAdd,Int.reduceSub,Int.reduceToNat,Nat.reduceBEq]
 try simp (disch:=omega) only [go_sem,Nat.reduceEqDiff,Nat.reduceAdd,Nat.reduceSub,Int.reduceAdd,Int.reduceSub,Int.reduceToNat,Nat.reduceBEq]
 obtain⟨q1,hq1⟩:∃ q,q=ma nsA (lj 1 1 x) w.a.now:=⟨_,rfl⟩
 refine dP 22 hE (fun s=>s.at (qU [9,14,25,35]) [] (((s.hp.take 24).set 22 (some ⟨[(c7 (⟨w.a,w.b,bag,p1,wA,wB,rA,rB,⟨keys,tags⟩,nums,q1,nsB⟩:WorldD) 24 25 26 27 28 29 30 31 32 33 34 35 36 37 38 39 40 41 42 43 44)],61,51,true,false⟩))++(dK w true++(dL (⟨w.a,w.b,bag,p1,wA,wB,rA,rB,⟨keys,tags⟩,nums,q1,nsB⟩:WorldD) true++[some ⟨[x.cs],19,91,true,false⟩])))) (qC) (by rfl) (fun N hN=>ac 401 ?_) (dm 1010 400 ?_)
 ·try simp (disch:=omega) only [go_sem,Nat.reduceEqDiff,Nat.reduceAdd,Nat.reduceSub,Int.reduceAdd,Int.reduceSub,Int.reduceToNat,Nat.reduceBEq]
  split<;>rename_i b2<;>(try simp only [beq_true,beq_false,Bool.not_eq_true',Bool.not_eq_false'] at b2)<;>simp (disch:=omega) only [go_sem,Nat.reduceEqDiff,Nat.reduceAdd,Nat.reduceSub,Int.reduceAdd,Int.reduceSub,Int.reduceToNat,Nat.reduceBEq,b2]<;>(try simp only [decide_eq_true_eq,decide_eq_false_iff_not,beq_iff_eq,beq_eq_false_iff_ne,bne_iff_ne,bne_eq_false_iff_eq,ne_eq,Decidable.not_not,Bool.and_eq_true,Bool.and_eq_false_iff,Bool.or_eq_true,Bool.or_eq_false_iff,Int.ofNat_lt,Int.ofNat_le,Bool.not_eq_eq_eq_not,Bool.not_true,Bool.not_false] at b2)<;>try simp (disch:=omega) only [go_sem,Nat.reduceEqDiff,Nat.reduceAdd,Nat.reduceSub,Int.reduceAdd,Int.reduceSub,Int.reduceToNat,Nat.reduceBEq]
  ·rw [vV b2] at hq1
   split<;>rename_i b3<;>(try simp only [beq_true,beq_false,Bool.not_eq_true',Bool.not_eq_false'] at b3)<;>simp (disch:=omega) only [go_sem,Nat.reduceEqDiff,Nat.reduceAdd,Nat.reduceSub,Int.reduceAdd,Int.reduceSub,Int.reduceToNat,Nat.reduceBEq,b3]<;>(try simp only [decide_eq_true_eq,decide_eq_false_iff_not,beq_iff_eq,beq_eq_false_iff_ne,bne_iff_ne,bne_eq_false_iff_eq,ne_eq,Decidable.not_not,Bool.and_eq_true,Bool.and_eq_false_iff,Bool.or_eq_true,Bool.or_eq_false_iff,Int.ofNat_lt,Int.ofNat_le,Bool.not_eq_eq_eq_not,Bool.not_true,Bool.not_false] at b3)<;>try simp (disch:=omega) only [go_sem,Nat.reduceEqDiff,Nat.reduceAdd,Nat.reduceSub,Int.reduceAdd,Int.reduceSub,Int.reduceToNat,Nat.reduceBEq]
   ·rw [vR (by omega)] at hq1
    subst hq1
    try simp (disch:=omega) only [go_sem,Nat.reduceEqDiff,Nat.reduceAdd,Nat.reduceSub,Int.reduceAdd,Int.reduceSub,Int.reduceToNat,Nat.reduceBEq]
    refine⟨qC,hN _ (qI 0 43++qI 47 1++qI 44 2) (ab (by rfl) (by rfl) ?_)⟩
    simp (disch:=omega) only [go_sem,Nat.reduceEqDiff,Nat.reduceAdd,Nat.reduceSub,Int.reduceAdd,Int.reduceSub,Int.reduceToNat,Nat.reduceBEq]
    try simp [aC]
   rw [vS (by omega)] at hq1
   subst hq1
   try simp (disch:=omega) only [go_sem,Nat.reduceEqDiff,Nat.reduceAdd,Nat.reduceSub,Int.reduceAdd,Int.reduceSub,Int.reduceToNat,Nat.reduceBEq]
   refine⟨qC,hN _ (qI 0 46) (ab (by rfl) (by rfl) ?_)⟩
   simp (disch:=omega) only [go_sem,Nat.reduceEqDiff,Nat.reduceAdd,Nat.reduceSub,Int.reduceAdd,Int.reduceSub,Int.reduceToNat,Nat.reduceBEq]
  rw [vT b2,iX] at hq1
  subst hq1
  try simp (disch:=omega) only [go_sem,Nat.reduceEqDiff,Nat.reduceAdd,Nat.reduceSub,Int.reduceAdd,Int.reduceSub,Int.reduceToNat,Nat.reduceBEq]
  refine⟨qC,hN _ (qI 0 46) (ab (by rfl) (by rfl) ?_)⟩
  simp (disch:=omega) only [go_sem,Nat.reduceEqDiff,Nat.reduceAdd,Nat.reduceSub,Int.reduceAdd,Int.reduceSub,Int.reduceToNat,Nat.reduceBEq]
 try simp (disch:=omega) only [go_sem,Nat.reduceEqDiff,Nat.reduceAdd,Nat.reduceSub,Int.reduceAdd,Int.reduceSub,Int.reduceToNat,Nat.reduceBEq]
 refine dP 22 hE (fun s=>s.at (qU [9,14,25,56]) [] (((s.hp.take 24).set 22 (some ⟨[(c7 (⟨w.a,w.b,bag,p1,wA,wB,rA,rB,⟨keys,tags⟩,nums,q1,nsB⟩:WorldD) 24 25 26 27 28 29 30 31 32 33 34 35 36 37 38 39 40 41 42 43 44)],61,51,true,false⟩))++(dK w true++(dL (⟨w.a,w.b,bag,p1,wA,wB,rA,rB,⟨keys,tags⟩,nums,q1,nsB⟩:WorldD) true++[some ⟨[x.cs],19,91,true,false⟩])))) (qC) (by rfl) (fun N hN=>ac 401 ?_) (ac 400 ?_)
 ·try simp (disch:=omega) only [go_sem,Nat.reduceEqDiff,Nat.reduceAdd,Nat.reduceSub,Int.reduceAdd,Int.reduceSub,Int.reduceToNat]
  split<;>rename_i b6<;>(try simp only [beq_true,beq_false,Bool.not_eq_true',Bool.not_eq_false'] at b6)<;>simp (disch:=omega) only [go_sem,Nat.reduceEqDiff,Nat.reduceAdd,Nat.reduceSub,Int.reduceAdd,Int.reduceSub,Int.reduceToNat,b6]<;>(try simp only [decide_eq_true_eq,decide_eq_false_iff_not,beq_iff_eq,beq_eq_false_iff_ne,bne_iff_ne,bne_eq_false_iff_eq,ne_eq,Decidable.not_not,Bool.and_eq_true,Bool.and_eq_false_iff,Bool.or_eq_true,Bool.or_eq_false_iff,Int.ofNat_lt,Int.ofNat_le,Bool.not_eq_eq_eq_not,Bool.not_true,Bool.not_false] at b6)<;>try simp (disch:=omega) only [go_sem,Nat.reduceEqDiff,Nat.reduceAdd,Nat.reduceSub,Int.reduceAdd,Int.reduceSub,Int.reduceToNat]
  ·try simp (disch:=omega) only [go_sem,Nat.reduceEqDiff,Nat.reduceAdd,Nat.reduceSub,Int.reduceAdd,Int.reduceSub,Int.reduceToNat]
   refine⟨qC,hN _ (qI 0 46) (ab (by rfl) (by rfl) ?_)⟩
   simp (disch:=omega) only [go_sem,Nat.reduceEqDiff,Nat.reduceAdd,Nat.reduceSub,Int.reduceAdd,Int.reduceSub,Int.reduceToNat]
  try simp (disch:=omega) only [go_sem,Nat.reduceEqDiff,Nat.reduceAdd,Nat.reduceSub,Int.reduceAdd,Int.reduceSub,Int.reduceToNat]
  refine⟨qC,hN _ (qI 0 46) (ab (by rfl) (by rfl) ?_)⟩
  simp (disch:=omega) only [go_sem,Nat.reduceEqDiff,Nat.reduceAdd,Nat.reduceSub,Int.reduceAdd,Int.reduceSub,Int.reduceToNat]
 try simp (disch:=omega) only [go_sem,Nat.reduceEqDiff,Nat.reduceAdd,Nat.reduceSub,Int.reduceAdd,Int.reduceSub,Int.reduceToNat]
 refine al (qC) (dD x.to) [] qM (by rfl) (ac 400 ?_)
 simp (disch:=omega) only [go_sem,Nat.reduceEqDiff,Nat.reduceAdd,Nat.reduceSub,Int.reduceAdd,Int.reduceSub,Int.reduceToNat]
 have hoth:ma nsB (lj 1 2 x) w.b.now=nsB:=by rw [vU (by decide),iX]
 split<;>rename_i b4<;>(try simp only [beq_true,beq_false,Bool.not_eq_true',Bool.not_eq_false'] at b4)<;>simp (disch:=omega) only [go_sem,Nat.reduceEqDiff,Nat.reduceAdd,Nat.reduceSub,Int.reduceAdd,Int.reduceSub,Int.reduceToNat,b4]<;>(try simp only [decide_eq_true_eq,decide_eq_false_iff_not,beq_iff_eq,beq_eq_false_iff_ne,bne_iff_ne,bne_eq_false_iff_eq,ne_eq,Decidable.not_not,Bool.and_eq_true,Bool.and_eq_false_iff,Bool.or_eq_true,Bool.or_eq_false_iff,Int.ofNat_lt,Int.ofNat_le,Bool.not_eq_eq_eq_not,Bool.not_true,Bool.not_false] at b4)<;>try simp (disch:=omega) only [go_sem,Nat.reduceEqDiff,Nat.reduceAdd,Nat.reduceSub,Int.reduceAdd,Int.reduceSub,Int.reduceToNat]
 ·have hK:=rv ⟨keys,tags⟩ x.tag (by dsimp only;omega) (by dsimp only;omega)
  have hky:(dY ⟨keys,tags⟩ x.tag).keys.length≤1048576:=by rw [iB];exact s3
  have hkt:(dY ⟨keys,tags⟩ x.tag).tags.length≤1048576:=kC s4
  obtain⟨kk,hkk⟩:∃ k,k=dY ⟨keys,tags⟩ x.tag:=⟨_,rfl⟩
  rw [←hkk] at hK hky hkt
  obtain⟨k1,t1⟩:=kk
  dsimp only at hky hkt
  have t5a:(dk nums x.nonce).length≤1048576:=d_ s5
  have t5b:(dk (dk nums x.nonce) x.give).length≤1048576:=d_ t5a
  have hh1:=eh (⟨w.a,w.b,bag,p1,wA,wB,rA,rB,⟨k1,t1⟩,nums,q1,nsB⟩:WorldD) x.nonce (by dsimp only;omega)
  have hh2:=eh (⟨w.a,w.b,bag,p1,wA,wB,rA,rB,⟨k1,t1⟩,(dk nums x.nonce),q1,nsB⟩:WorldD) x.give (by dsimp only;omega)
  have hh3:=eh (⟨w.a,w.b,bag,p1,wA,wB,rA,rB,⟨k1,t1⟩,(dk (dk nums x.nonce) x.give),q1,nsB⟩:WorldD) x.sgn (by dsimp only;omega)
  dsimp only at hh1 hh2 hh3
  have e:c_ 1 (⟨w.a,w.b,bag,past,wA,wB,rA,rB,⟨keys,tags⟩,nums,nsA,nsB⟩:WorldD) x=(⟨w.a,w.b,bag,p1,wA,wB,rA,rB,⟨k1,t1⟩,(dk (dk (dk nums x.nonce) x.give) x.sgn),q1,nsB⟩:WorldD):=by
   rw [c_,if_pos b4,oR,jm]
   dsimp only
   rw [←hkk,hoth,←hp1,←hq1]
  rw [e] at hu
  have hS1:=dE (side:=1) (x:=x) hS
  rw [e] at hS1
  generalize dk nums x.nonce=m1 at*
  generalize dk m1 x.give=m2 at*
  generalize dk m2 x.sgn=m3 at*
  try simp (disch:=omega) only [go_sem,Nat.reduceEqDiff,Nat.reduceAdd,Nat.reduceSub,Int.reduceAdd,Int.reduceSub,Int.reduceToNat]
  refine al (qC) (hK) (qI 40 2) qM (by rfl) (ac 400 ?_)
  simp (disch:=omega) only [go_sem,Nat.reduceEqDiff,Nat.reduceAdd,Nat.reduceSub,Int.reduceAdd,Int.reduceSub,Int.reduceToNat]
  refine al (qC) (hh1) (qI 24 16++qI 46 2++qI 42 3) qM (by rfl) (ac 400 ?_)
  simp (disch:=omega) only [go_sem,Nat.reduceEqDiff,Nat.reduceAdd,Nat.reduceSub,Int.reduceAdd,Int.reduceSub,Int.reduceToNat]
  refine al (qC) (hh2) (qI 24 16++qI 46 3++qI 43 2) qM (by rfl) (ac 400 ?_)
  simp (disch:=omega) only [go_sem,Nat.reduceEqDiff,Nat.reduceAdd,Nat.reduceSub,Int.reduceAdd,Int.reduceSub,Int.reduceToNat]
  refine al (qC) (hh3) (qI 24 16++qI 46 2++qI 49 1++qI 43 2) qM (by rfl) (ac 400 ?_)
  simp (disch:=omega) only [go_sem,Nat.reduceEqDiff,Nat.reduceAdd,Nat.reduceSub,Int.reduceAdd,Int.reduceSub,Int.reduceToNat]
  refine⟨qC,hN _ (i+1,(⟨w.a,w.b,bag,p1,wA,wB,rA,rB,⟨k1,t1⟩,m3,q1,nsB⟩:WorldD)) (qI 0 40++qI 46 2++qI 50 1++qI 43 2) (by (try dsimp only);exact⟨by omega,rfl,rfl,hS1,hu⟩) (by (try dsimp only);omega) (ab (by rfl) (by rfl) ?_)⟩
  try simp (disch:=omega) only [go_sem,Nat.reduceEqDiff,Nat.reduceAdd,Nat.reduceSub,Int.reduceAdd,Int.reduceSub,Int.reduceToNat]
 obtain⟨g1,hg1⟩:∃ g,g=vO bag x:=⟨_,rfl⟩
 have e:c_ 1 (⟨w.a,w.b,bag,past,wA,wB,rA,rB,⟨keys,tags⟩,nums,nsA,nsB⟩:WorldD) x=(⟨w.a,w.b,g1,p1,wA,wB,rA,rB,⟨keys,tags⟩,nums,q1,nsB⟩:WorldD):=by
  rw [c_,if_neg b4,jm]
  dsimp only
  rw [hoth,←hp1,←hq1,←hg1]
 rw [e] at hu
 have hS1:=dE (side:=1) (x:=x) hS
 rw [e] at hS1
 try simp (disch:=omega) only [go_sem,Nat.reduceEqDiff,Nat.reduceAdd,Nat.reduceSub,Int.reduceAdd,Int.reduceSub,Int.reduceToNat]
 split<;>rename_i b5<;>(try simp only [beq_true,beq_false,Bool.not_eq_true',Bool.not_eq_false'] at b5)<;>simp (disch:=omega) only [go_sem,Nat.reduceEqDiff,Nat.reduceAdd,Nat.reduceSub,Int.reduceAdd,Int.reduceSub,Int.reduceToNat,b5]<;>(try simp only [decide_eq_true_eq,decide_eq_false_iff_not,beq_iff_eq,beq_eq_false_iff_ne,bne_iff_ne,bne_eq_false_iff_eq,ne_eq,Decidable.not_not,Bool.and_eq_true,Bool.and_eq_false_iff,Bool.or_eq_true,Bool.or_eq_false_iff,Int.ofNat_lt,Int.ofNat_le,Bool.not_eq_eq_eq_not,Bool.not_true,Bool.not_false] at b5)<;>try simp (disch:=omega) only [go_sem,Nat.reduceEqDiff,Nat.reduceAdd,Nat.reduceSub,Int.reduceAdd,Int.reduceSub,Int.reduceToNat]
 ·rw [vP (by omega)] at hg1
  subst hg1
  try simp (disch:=omega) only [go_sem,Nat.reduceEqDiff,Nat.reduceAdd,Nat.reduceSub,Int.reduceAdd,Int.reduceSub,Int.reduceToNat]
  refine⟨qC,hN _ (i+1,(⟨w.a,w.b,(bag++[x]),p1,wA,wB,rA,rB,⟨keys,tags⟩,nums,q1,nsB⟩:WorldD)) (qI 0 38++qI 47 1++qI 39 6) (by (try dsimp only);exact⟨by omega,rfl,rfl,hS1,hu⟩) (by (try dsimp only);omega) (ab (by rfl) (by rfl) ?_)⟩
  try simp (disch:=omega) only [go_sem,Nat.reduceEqDiff,Nat.reduceAdd,Nat.reduceSub,Int.reduceAdd,Int.reduceSub,Int.reduceToNat]
  try simp [LetterD.cs]
 rw [vQ (by omega)] at hg1
 subst hg1
 try simp (disch:=omega) only [go_sem,Nat.reduceEqDiff,Nat.reduceAdd,Nat.reduceSub,Int.reduceAdd,Int.reduceSub,Int.reduceToNat]
 refine⟨qC,hN _ (i+1,(⟨w.a,w.b,g1,p1,wA,wB,rA,rB,⟨keys,tags⟩,nums,q1,nsB⟩:WorldD)) (qI 0 45) (by (try dsimp only);exact⟨by omega,rfl,rfl,hS1,hu⟩) (by (try dsimp only);omega) (ab (by rfl) (by rfl) ?_)⟩
 try simp (disch:=omega) only [go_sem,Nat.reduceEqDiff,Nat.reduceAdd,Nat.reduceSub,Int.reduceAdd,Int.reduceSub,Int.reduceToNat]
theorem dI (w:WorldD) (l:List LetterD) (hw:SmallW w) (hl:l.length≤1048576):ae Tryz.prog 123 [.ag (w.cs 0),.sc (.int .i64 2),.sc (.sl 21 0 l.length)]
  (w.hp false++[some ⟨l.map LetterD.cs,19,91,false,true⟩]) (.ag ((aq 2 w l).cs 22)) (w.hp false++([some ⟨l.map LetterD.cs,19,91,false,true⟩]++(aq 2 w l).hp true)):=by
 obtain⟨R,hR⟩:∃ R,R=aq 2 w l:=⟨_,rfl⟩
 rw [←hR]
 have hl2:l.length≤9223372036854775807:=by omega
 have hC:=ib w hw
 refine aN Tryz.func123 (by kernel_rfl) rfl fun E hE=>ac 400 ?_
 simp (disch:=omega) only [Tryz.ntmps123,Tryz.results123,go_sem,Nat.reduceEqDiff,Nat.reduceAdd,Nat.reduceSub,Int.reduceAdd,Int.reduceSub,Int.reduceToNat]
 refine al (qC) (hC) (qI 0 21) qM (by rfl) (ac 400 ?_)
 simp (disch:=omega) only [go_sem,Nat.reduceEqDiff,Nat.reduceAdd,Nat.reduceSub,Int.reduceAdd,Int.reduceSub,Int.reduceToNat]
 refine cE 22 hE (fun s (y:Nat×WorldD)=>s.at (qU [0,1,8,105]) [(7,.sc (.int .i64 (y.1:Nat)))] (((s.hp.take 24).set 22 (some ⟨[(c7 y.2 24 25 26 27 28 29 30 31 32 33 34 35 36 37 38 39 40 41 42 43 44)],61,51,true,false⟩))++(dK w true++(dL y.2 true)))) (fun (y:Nat×WorldD)=>y.1≤l.length∧y.2.a=w.a∧y.2.b=w.b∧SmallP2 y.2∧R=aq 2 y.2 (l.drop y.1)) (fun (y:Nat×WorldD)=>l.length - y.1) (0,w) (qI 0 45) (qC) (⟨Nat.zero_le _,rfl,rfl,hw.rest,hR⟩) (ab (by rfl) (by rfl) ?_) fun y hy N hN=>?_
 ·try simp (disch:=omega) only [go_sem,Nat.reduceEqDiff,Nat.reduceAdd,Nat.reduceSub,Int.reduceAdd,Int.reduceSub,Int.reduceToNat]
 obtain⟨i,u⟩:=y
 obtain⟨hi,ha,hb,hS,hu⟩:=hy
 obtain⟨ua,ub,bag,past,wA,wB,rA,rB,known,nums,nsA,nsB⟩:=u
 obtain⟨keys,tags⟩:=known
 dsimp only at hi ha hb hu
 subst ha hb
 have s1:=hS.bag
 have s2:=hS.past
 have s3:=hS.keys
 have s4:=hS.tags
 have s5:=hS.nums
 have s6:=hS.ansA
 have s7:=hS.ansB
 dsimp only at s1 s2 s3 s4 s5 s6 s7
 refine dm 1006 400 ?_
 try simp (disch:=omega) only [go_sem,Nat.reduceEqDiff,Nat.reduceAdd,Nat.reduceSub,Int.reduceAdd,Int.reduceSub,Int.reduceToNat,Nat.reduceBEq]
 split<;>rename_i h<;>(try simp only [decide_eq_true_eq,decide_eq_false_iff_not,Int.ofNat_lt] at h)
 rotate_left
 ·have e:i=l.length:=by omega
  subst e
  rw [kU (Nat.le_refl _)] at hu
  subst hu
  try simp (disch:=omega) only [go_sem,Nat.reduceEqDiff,Nat.reduceAdd,Nat.reduceSub,Int.reduceAdd,Int.reduceSub,Int.reduceToNat,Nat.reduceBEq]
  refine aA (qI 0 22++qI 24 21) (qC) _ (by simp only [go_sem];rfl) (by rfl) (by rfl) ?_
  simp (disch:=omega) only [go_sem,Nat.reduceEqDiff,Nat.reduceAdd,Nat.reduceSub,Int.reduceAdd,Int.reduceSub,Int.reduceToNat,Nat.reduceBEq]
 rw [jK h] at hu
 generalize hx:l[i]=x at hu
 have hget:=ao (enc:=LetterD.cs) h
 rw [hx] at hget
 try simp (disch:=omega) only [go_sem,Nat.reduceEqDiff,Nat.reduceAdd,Nat.reduceSub,Int.reduceAdd,Int.reduceSub,Int.reduceToNat,Nat.reduceBEq,hget]
 obtain⟨p1,hp1⟩:∃ p,p=nb past x:=⟨_,rfl⟩
 refine dP 22 hE (fun s=>s.at (qU [9,14,25,14]) [] (((s.hp.take 24).set 22 (some ⟨[(c7 (⟨w.a,w.b,bag,p1,wA,wB,rA,rB,⟨keys,tags⟩,nums,nsA,nsB⟩:WorldD) 24 25 26 27 28 29 30 31 32 33 34 35 36 37 38 39 40 41 42 43 44)],61,51,true,false⟩))++(dK w true++(dL (⟨w.a,w.b,bag,p1,wA,wB,rA,rB,⟨keys,tags⟩,nums,nsA,nsB⟩:WorldD) true++[some ⟨[x.cs],19,91,true,false⟩])))) (qC) (by rfl) (fun N hN=>ac 401 ?_) (dm 1008 400 ?_)
 ·try simp (disch:=omega) only [go_sem,Nat.reduceEqDiff,Nat.reduceAdd,Nat.reduceSub,Int.reduceAdd,Int.reduceSub,Int.reduceToNat,Nat.reduceBEq]
  split<;>rename_i b1<;>(try simp only [beq_true,beq_false,Bool.not_eq_true',Bool.not_eq_false'] at b1)<;>simp (disch:=omega) only [go_sem,Nat.reduceEqDiff,Nat.reduceAdd,Nat.reduceSub,Int.reduceAdd,Int.reduceSub,Int.reduceToNat,Nat.reduceBEq,b1]<;>(try simp only [decide_eq_true_eq,decide_eq_false_iff_not,beq_iff_eq,beq_eq_false_iff_ne,bne_iff_ne,bne_eq_false_iff_eq,ne_eq,Decidable.not_not,Bool.and_eq_true,Bool.and_eq_false_iff,Bool.or_eq_true,Bool.or_eq_false_iff,Int.ofNat_lt,Int.ofNat_le,Bool.not_eq_eq_eq_not,Bool.not_true,Bool.not_false] at b1)<;>try simp (disch:=omega) only [go_sem,Nat.reduceEqDiff,Nat.reduceAdd,Nat.reduceSub,Int.reduceAdd,Int.reduceSub,Int.reduceToNat,Nat.reduceBEq]
  ·rw [pw (by omega)] at hp1
   subst hp1
   try simp (disch:=omega) only [go_sem,Nat.reduceEqDiff,Nat.reduceAdd,Nat.reduceSub,Int.reduceAdd,Int.reduceSub,Int.reduceToNat,Nat.reduceBEq]
   refine⟨qC,hN _ (qI 0 39++qI 47 1++qI 40 6) (ab (by rfl) (by rfl) ?_)⟩
   simp (disch:=omega) only [go_sem,Nat.reduceEqDiff,Nat.reduceAdd,Nat.reduceSub,Int.reduceAdd,Int.reduceSub,Int.reduceToNat,Nat.reduceBEq]
   try simp [LetterD.cs]
  rw [px (by omega)] at hp1
  subst hp1
  try simp (disch:=omega) only [go_sem,Nat.reduceEqDiff,Nat.reduceAdd,Nat.reduceSub,Int.reduceAdd,Int.reduceSub,Int.reduceToNat,Nat.reduceBEq]
  refine⟨qC,hN _ (qI 0 46) (ab (by rfl) (by rfl) ?_)⟩
  simp (disch:=omega) only [go_sem,Nat.reduceEqDiff,Nat.reduceAdd,Nat.reduceSub,Int.reduceAdd,Int.reduceSub,Int.reduceToNat,Nat.reduceBEq]
 try simp (disch:=omega) only [go_sem,Nat.reduceEqDiff,Nat.reduceAdd,Nat.reduceSub,Int.reduceAdd,Int.reduceSub,Int.reduceToNat,Nat.reduceBEq]
 obtain⟨q1,hq1⟩:∃ q,q=ma nsB (lj 2 2 x) w.b.now:=⟨_,rfl⟩
 refine dP 22 hE (fun s=>s.at (qU [9,14,25,35]) [] (((s.hp.take 24).set 22 (some ⟨[(c7 (⟨w.a,w.b,bag,p1,wA,wB,rA,rB,⟨keys,tags⟩,nums,nsA,nsB⟩:WorldD) 24 25 26 27 28 29 30 31 32 33 34 35 36 37 38 39 40 41 42 43 44)],61,51,true,false⟩))++(dK w true++(dL (⟨w.a,w.b,bag,p1,wA,wB,rA,rB,⟨keys,tags⟩,nums,nsA,nsB⟩:WorldD) true++[some ⟨[x.cs],19,91,true,false⟩])))) (qC) (by rfl) (fun N hN=>ac 401 ?_) (dm 1010 400 ?_)
 ·try simp (disch:=omega) only [go_sem,Nat.reduceEqDiff,Nat.reduceAdd,Nat.reduceSub,Int.reduceAdd,Int.reduceSub,Int.reduceToNat,Nat.reduceBEq]
  split<;>rename_i b6<;>(try simp only [beq_true,beq_false,Bool.not_eq_true',Bool.not_eq_false'] at b6)<;>simp (disch:=omega) only [go_sem,Nat.reduceEqDiff,Nat.reduceAdd,Nat.reduceSub,Int.reduceAdd,Int.reduceSub,Int.reduceToNat,Nat.reduceBEq,b6]<;>(try simp only [decide_eq_true_eq,decide_eq_false_iff_not,beq_iff_eq,beq_eq_false_iff_ne,bne_iff_ne,bne_eq_false_iff_eq,ne_eq,Decidable.not_not,Bool.and_eq_true,Bool.and_eq_false_iff,Bool.or_eq_true,Bool.or_eq_false_iff,Int.ofNat_lt,Int.ofNat_le,Bool.not_eq_eq_eq_not,Bool.not_true,Bool.not_false] at b6)<;>try simp (disch:=omega) only [go_sem,Nat.reduceEqDiff,Nat.reduceAdd,Nat.reduceSub,Int.reduceAdd,Int.reduceSub,Int.reduceToNat,Nat.reduceBEq]
  ·try simp (disch:=omega) only [go_sem,Nat.reduceEqDiff,Nat.reduceAdd,Nat.reduceSub,Int.reduceAdd,Int.reduceSub,Int.reduceToNat,Nat.reduceBEq]
   refine⟨qC,hN _ (qI 0 46) (ab (by rfl) (by rfl) ?_)⟩
   simp (disch:=omega) only [go_sem,Nat.reduceEqDiff,Nat.reduceAdd,Nat.reduceSub,Int.reduceAdd,Int.reduceSub,Int.reduceToNat,Nat.reduceBEq]
  try simp (disch:=omega) only [go_sem,Nat.reduceEqDiff,Nat.reduceAdd,Nat.reduceSub,Int.reduceAdd,Int.reduceSub,Int.reduceToNat,Nat.reduceBEq]
  refine⟨qC,hN _ (qI 0 46) (ab (by rfl) (by rfl) ?_)⟩
  simp (disch:=omega) only [go_sem,Nat.reduceEqDiff,Nat.reduceAdd,Nat.reduceSub,Int.reduceAdd,Int.reduceSub,Int.reduceToNat,Nat.reduceBEq]
 try simp (disch:=omega) only [go_sem,Nat.reduceEqDiff,Nat.reduceAdd,Nat.reduceSub,Int.reduceAdd,Int.reduceSub,Int.reduceToNat,Nat.reduceBEq]
 refine dP 22 hE (fun s=>s.at (qU [9,14,25,56]) [] (((s.hp.take 24).set 22 (some ⟨[(c7 (⟨w.a,w.b,bag,p1,wA,wB,rA,rB,⟨keys,tags⟩,nums,nsA,q1⟩:WorldD) 24 25 26 27 28 29 30 31 32 33 34 35 36 37 38 39 40 41 42 43 44)],61,51,true,false⟩))++(dK w true++(dL (⟨w.a,w.b,bag,p1,wA,wB,rA,rB,⟨keys,tags⟩,nums,nsA,q1⟩:WorldD) true++[some ⟨[x.cs],19,91,true,false⟩])))) (qC) (by rfl) (fun N hN=>ac 401 ?_) (ac 400 ?_)
 ·try simp (disch:=omega) only [go_sem,Nat.reduceEqDiff,Nat.reduceAdd,Nat.reduceSub,Int.reduceAdd,Int.reduceSub,Int.reduceToNat]
  split<;>rename_i b2<;>(try simp only [beq_true,beq_false,Bool.not_eq_true',Bool.not_eq_false'] at b2)<;>simp (disch:=omega) only [go_sem,Nat.reduceEqDiff,Nat.reduceAdd,Nat.reduceSub,Int.reduceAdd,Int.reduceSub,Int.reduceToNat,b2]<;>(try simp only [decide_eq_true_eq,decide_eq_false_iff_not,beq_iff_eq,beq_eq_false_iff_ne,bne_iff_ne,bne_eq_false_iff_eq,ne_eq,Decidable.not_not,Bool.and_eq_true,Bool.and_eq_false_iff,Bool.or_eq_true,Bool.or_eq_false_iff,Int.ofNat_lt,Int.ofNat_le,Bool.not_eq_eq_eq_not,Bool.not_true,Bool.not_false] at b2)<;>try simp (disch:=omega) only [go_sem,Nat.reduceEqDiff,Nat.reduceAdd,Nat.reduceSub,Int.reduceAdd,Int.reduceSub,Int.reduceToNat]
  ·rw [vV b2] at hq1
   split<;>rename_i b3<;>(try simp only [beq_true,beq_false,Bool.not_eq_true',Bool.not_eq_false'] at b3)<;>simp (disch:=omega) only [go_sem,Nat.reduceEqDiff,Nat.reduceAdd,Nat.reduceSub,Int.reduceAdd,Int.reduceSub,Int.reduceToNat,b3]<;>(try simp only [decide_eq_true_eq,decide_eq_false_iff_not,beq_iff_eq,beq_eq_false_iff_ne,bne_iff_ne,bne_eq_false_iff_eq,ne_eq,Decidable.not_not,Bool.and_eq_true,Bool.and_eq_false_iff,Bool.or_eq_true,Bool.or_eq_false_iff,Int.ofNat_lt,Int.ofNat_le,Bool.not_eq_eq_eq_not,Bool.not_true,Bool.not_false] at b3)<;>try simp (disch:=omega) only [go_sem,Nat.reduceEqDiff,Nat.reduceAdd,Nat.reduceSub,Int.reduceAdd,Int.reduceSub,Int.reduceToNat]
   ·rw [vR (by omega)] at hq1
    subst hq1
    try simp (disch:=omega) only [go_sem,Nat.reduceEqDiff,Nat.reduceAdd,Nat.reduceSub,Int.reduceAdd,Int.reduceSub,Int.reduceToNat]
    refine⟨qC,hN _ (qI 0 44++qI 47 1++qI 45 1) (ab (by rfl) (by rfl) ?_)⟩
    simp (disch:=omega) only [go_sem,Nat.reduceEqDiff,Nat.reduceAdd,Nat.reduceSub,Int.reduceAdd,Int.reduceSub,Int.reduceToNat]
    try simp [aC]
   rw [vS (by omega)] at hq1
   subst hq1
   try simp (disch:=omega) only [go_sem,Nat.reduceEqDiff,Nat.reduceAdd,Nat.reduceSub,Int.reduceAdd,Int.reduceSub,Int.reduceToNat]
   refine⟨qC,hN _ (qI 0 46) (ab (by rfl) (by rfl) ?_)⟩
   simp (disch:=omega) only [go_sem,Nat.reduceEqDiff,Nat.reduceAdd,Nat.reduceSub,Int.reduceAdd,Int.reduceSub,Int.reduceToNat]
  rw [vT b2,iX] at hq1
  subst hq1
  try simp (disch:=omega) only [go_sem,Nat.reduceEqDiff,Nat.reduceAdd,Nat.reduceSub,Int.reduceAdd,Int.reduceSub,Int.reduceToNat]
  refine⟨qC,hN _ (qI 0 46) (ab (by rfl) (by rfl) ?_)⟩
  simp (disch:=omega) only [go_sem,Nat.reduceEqDiff,Nat.reduceAdd,Nat.reduceSub,Int.reduceAdd,Int.reduceSub,Int.reduceToNat]
 try simp (disch:=omega) only [go_sem,Nat.reduceEqDiff,Nat.reduceAdd,Nat.reduceSub,Int.reduceAdd,Int.reduceSub,Int.reduceToNat]
 refine al (qC) (dD x.to) [] qM (by rfl) (ac 400 ?_)
 simp (disch:=omega) only [go_sem,Nat.reduceEqDiff,Nat.reduceAdd,Nat.reduceSub,Int.reduceAdd,Int.reduceSub,Int.reduceToNat]
 have hoth:ma nsA (lj 2 1 x) w.a.now=nsA:=by rw [vU (by decide),iX]
 split<;>rename_i b4<;>(try simp only [beq_true,beq_false,Bool.not_eq_true',Bool.not_eq_false'] at b4)<;>simp (disch:=omega) only [go_sem,Nat.reduceEqDiff,Nat.reduceAdd,Nat.reduceSub,Int.reduceAdd,Int.reduceSub,Int.reduceToNat,b4]<;>(try simp only [decide_eq_true_eq,decide_eq_false_iff_not,beq_iff_eq,beq_eq_false_iff_ne,bne_iff_ne,bne_eq_false_iff_eq,ne_eq,Decidable.not_not,Bool.and_eq_true,Bool.and_eq_false_iff,Bool.or_eq_true,Bool.or_eq_false_iff,Int.ofNat_lt,Int.ofNat_le,Bool.not_eq_eq_eq_not,Bool.not_true,Bool.not_false] at b4)<;>try simp (disch:=omega) only [go_sem,Nat.reduceEqDiff,Nat.reduceAdd,Nat.reduceSub,Int.reduceAdd,Int.reduceSub,Int.reduceToNat]
 ·have hK:=rv ⟨keys,tags⟩ x.tag (by dsimp only;omega) (by dsimp only;omega)
  have hky:(dY ⟨keys,tags⟩ x.tag).keys.length≤1048576:=by rw [iB];exact s3
  have hkt:(dY ⟨keys,tags⟩ x.tag).tags.length≤1048576:=kC s4
  obtain⟨kk,hkk⟩:∃ k,k=dY ⟨keys,tags⟩ x.tag:=⟨_,rfl⟩
  rw [←hkk] at hK hky hkt
  obtain⟨k1,t1⟩:=kk
  dsimp only at hky hkt
  have t5a:(dk nums x.nonce).length≤1048576:=d_ s5
  have t5b:(dk (dk nums x.nonce) x.give).length≤1048576:=d_ t5a
  have hh1:=eh (⟨w.a,w.b,bag,p1,wA,wB,rA,rB,⟨k1,t1⟩,nums,nsA,q1⟩:WorldD) x.nonce (by dsimp only;omega)
  have hh2:=eh (⟨w.a,w.b,bag,p1,wA,wB,rA,rB,⟨k1,t1⟩,(dk nums x.nonce),nsA,q1⟩:WorldD) x.give (by dsimp only;omega)
  have hh3:=eh (⟨w.a,w.b,bag,p1,wA,wB,rA,rB,⟨k1,t1⟩,(dk (dk nums x.nonce) x.give),nsA,q1⟩:WorldD) x.sgn (by dsimp only;omega)
  dsimp only at hh1 hh2 hh3
  have e:c_ 2 (⟨w.a,w.b,bag,past,wA,wB,rA,rB,⟨keys,tags⟩,nums,nsA,nsB⟩:WorldD) x=(⟨w.a,w.b,bag,p1,wA,wB,rA,rB,⟨k1,t1⟩,(dk (dk (dk nums x.nonce) x.give) x.sgn),nsA,q1⟩:WorldD):=by
   rw [c_,if_pos b4,oR,jm]
   dsimp only
   rw [←hkk,hoth,←hp1,←hq1]
  rw [e] at hu
  have hS1:=dE (side:=2) (x:=x) hS
  rw [e] at hS1
  generalize dk nums x.nonce=m1 at*
  generalize dk m1 x.give=m2 at*
  generalize dk m2 x.sgn=m3 at*
  try simp (disch:=omega) only [go_sem,Nat.reduceEqDiff,Nat.reduceAdd,Nat.reduceSub,Int.reduceAdd,Int.reduceSub,Int.reduceToNat]
  refine al (qC) (hK) (qI 40 2) qM (by rfl) (ac 400 ?_)
  simp (disch:=omega) only [go_sem,Nat.reduceEqDiff,Nat.reduceAdd,Nat.reduceSub,Int.reduceAdd,Int.reduceSub,Int.reduceToNat]
  refine al (qC) (hh1) (qI 24 16++qI 46 2++qI 42 3) qM (by rfl) (ac 400 ?_)
  simp (disch:=omega) only [go_sem,Nat.reduceEqDiff,Nat.reduceAdd,Nat.reduceSub,Int.reduceAdd,Int.reduceSub,Int.reduceToNat]
  refine al (qC) (hh2) (qI 24 16++qI 46 3++qI 43 2) qM (by rfl) (ac 400 ?_)
  simp (disch:=omega) only [go_sem,Nat.reduceEqDiff,Nat.reduceAdd,Nat.reduceSub,Int.reduceAdd,Int.reduceSub,Int.reduceToNat]
  refine al (qC) (hh3) (qI 24 16++qI 46 2++qI 49 1++qI 43 2) qM (by rfl) (ac 400 ?_)
  simp (disch:=omega) only [go_sem,Nat.reduceEqDiff,Nat.reduceAdd,Nat.reduceSub,Int.reduceAdd,Int.reduceSub,Int.reduceToNat]
  refine⟨qC,hN _ (i+1,(⟨w.a,w.b,bag,p1,wA,wB,rA,rB,⟨k1,t1⟩,m3,nsA,q1⟩:WorldD)) (qI 0 40++qI 46 2++qI 50 1++qI 43 2) (by (try dsimp only);exact⟨by omega,rfl,rfl,hS1,hu⟩) (by (try dsimp only);omega) (ab (by rfl) (by rfl) ?_)⟩
  try simp (disch:=omega) only [go_sem,Nat.reduceEqDiff,Nat.reduceAdd,Nat.reduceSub,Int.reduceAdd,Int.reduceSub,Int.reduceToNat]
 obtain⟨g1,hg1⟩:∃ g,g=vO bag x:=⟨_,rfl⟩
 have e:c_ 2 (⟨w.a,w.b,bag,past,wA,wB,rA,rB,⟨keys,tags⟩,nums,nsA,nsB⟩:WorldD) x=(⟨w.a,w.b,g1,p1,wA,wB,rA,rB,⟨keys,tags⟩,nums,nsA,q1⟩:WorldD):=by
  rw [c_,if_neg b4,jm]
  dsimp only
  rw [hoth,←hp1,←hq1,←hg1]
 rw [e] at hu
 have hS1:=dE (side:=2) (x:=x) hS
 rw [e] at hS1
 try simp (disch:=omega) only [go_sem,Nat.reduceEqDiff,Nat.reduceAdd,Nat.reduceSub,Int.reduceAdd,Int.reduceSub,Int.reduceToNat]
 split<;>rename_i b5<;>(try simp only [beq_true,beq_false,Bool.not_eq_true',Bool.not_eq_false'] at b5)<;>simp (disch:=omega) only [go_sem,Nat.reduceEqDiff,Nat.reduceAdd,Nat.reduceSub,Int.reduceAdd,Int.reduceSub,Int.reduceToNat,b5]<;>(try simp only [decide_eq_true_eq,decide_eq_false_iff_not,beq_iff_eq,beq_eq_false_iff_ne,bne_iff_ne,bne_eq_false_iff_eq,ne_eq,Decidable.not_not,Bool.and_eq_true,Bool.and_eq_false_iff,Bool.or_eq_true,Bool.or_eq_false_iff,Int.ofNat_lt,Int.ofNat_le,Bool.not_eq_eq_eq_not,Bool.not_true,Bool.not_false] at b5)<;>try simp (disch:=omega) only [go_sem,Nat.reduceEqDiff,Nat.reduceAdd,Nat.reduceSub,Int.reduceAdd,Int.reduceSub,Int.reduceToNat]
 ·rw [vP (by omega)] at hg1
  subst hg1
  try simp (disch:=omega) only [go_sem,Nat.reduceEqDiff,Nat.reduceAdd,Nat.reduceSub,Int.reduceAdd,Int.reduceSub,Int.reduceToNat]
  refine⟨qC,hN _ (i+1,(⟨w.a,w.b,(bag++[x]),p1,wA,wB,rA,rB,⟨keys,tags⟩,nums,nsA,q1⟩:WorldD)) (qI 0 38++qI 47 1++qI 39 6) (by (try dsimp only);exact⟨by omega,rfl,rfl,hS1,hu⟩) (by (try dsimp only);omega) (ab (by rfl) (by rfl) ?_)⟩
  try simp (disch:=omega) only [go_sem,Nat.reduceEqDiff,Nat.reduceAdd,Nat.reduceSub,Int.reduceAdd,Int.reduceSub,Int.reduceToNat]
  try simp [LetterD.cs]
 rw [vQ (by omega)] at hg1
 subst hg1
 try simp (disch:=omega) only [go_sem,Nat.reduceEqDiff,Nat.reduceAdd,Nat.reduceSub,Int.reduceAdd,Int.reduceSub,Int.reduceToNat]
 refine⟨qC,hN _ (i+1,(⟨w.a,w.b,g1,p1,wA,wB,rA,rB,⟨keys,tags⟩,nums,nsA,q1⟩:WorldD)) (qI 0 45) (by (try dsimp only);exact⟨by omega,rfl,rfl,hS1,hu⟩) (by (try dsimp only);omega) (ab (by rfl) (by rfl) ?_)⟩
 try simp (disch:=omega) only [go_sem,Nat.reduceEqDiff,Nat.reduceAdd,Nat.reduceSub,Int.reduceAdd,Int.reduceSub,Int.reduceToNat]
end
section
open Go.RowKit
theorem vW {w:WorldD} {x:LetterD} (h:aZ x.to=0):gN w x=w:=by rw [gN,if_pos h]
theorem vX {w:WorldD} {x:LetterD} (h:aZ x.to=1):gN w x=aq 1 { w with a:=(cZ w.a x).1 } (cZ w.a x).2:=by rw [gN,h];rfl
theorem vY {w:WorldD} {x:LetterD} (h:aZ x.to=2):gN w x=aq 2 { w with b:=(cZ w.b x).1 } (cZ w.b x).2:=by rw [gN,h];rfl
structure SmallWP (w:WorldD):Prop where
 s:SmallW w
 pa:SmallP w.a.inp
 pb:SmallP w.b.inp
theorem zg (w:WorldD) (x:LetterD) (hw:SmallWP w):ae Tryz.prog 156 [.ag (w.cs 0),.ag x.cs] (w.hp false) (.ag ((gN w x).cs 21)) (w.hp false++(gN w x).hp true):=by
 have hC:=kB w hw.s
 have hS:=dC x.to
 obtain⟨R,hR⟩:∃ R,R=gN w x:=⟨_,rfl⟩
 rw [←hR]
 rcases kT x.to with h0|h0|h0
 ·rw [vW h0] at hR
  subst hR
  rw [h0] at hS
  refine ga Tryz.func156 Tryz.ntmps156 Tryz.results156 fun E hE=>?_
  refine qK (hC) (qI 0 21) ?_
  refine qK (hS) [] ?_
  exact cc (qI 0 21++qI 24 21)
 ·rw [vX h0] at hR
  rw [h0] at hS
  have hEA:ae Tryz.prog 144 [.ag (w.cs 0),.sc (.int .i64 1)] (w.hp false) (.ag (w.a.cs 21)) (w.hp false++w.a.hp true):=bF w 1 hw.s.a.own hw.s.a.far hw.s.a.subs hw.s.a.halfs hw.s.a.list hw.s.a.done hw.s.a.over hw.s.b.own hw.s.b.far hw.s.b.subs hw.s.b.halfs hw.s.b.list hw.s.b.done hw.s.b.over
  have hH:=uy w.a x hw.s.a hw.pa
  have hsm:=gu (e:=w.a) (x:=x) hw.s.a
  have hone:=nd (e:=w.a) (x:=x)
  obtain⟨pr,hpr⟩:∃ p,p=cZ w.a x:=⟨_,rfl⟩
  rw [←hpr] at hH hsm hone hR
  obtain⟨e1,l1⟩:=pr
  dsimp only at hH hsm hone hR
  have hends:=aE (side:=1) (l:=l1) (w:={ w with a:=e1 })
  rw [←hR] at hends
  have hset:=fL w e1
  have hpost:=eM { w with a:=e1 } l1 ⟨hw.s.bag,hw.s.past,hw.s.keys,hw.s.tags,hw.s.nums,hw.s.ansA,hw.s.ansB⟩ (by omega)
  rw [←hR] at hpost
  clear hR hpr
  obtain⟨ra,rb,bag,past,wA,wB,rA,rB,known,nums,nsA,nsB⟩:=R
  obtain⟨keys,tags⟩:=known
  dsimp only at hends
  obtain⟨g1,g2,g3,g4,g5,g6⟩:=hends
  replace g1:=g1.symm
  replace g2:=g2.symm
  replace g3:=g3.symm
  replace g4:=g4.symm
  replace g5:=g5.symm
  replace g6:=g6.symm
  subst g1 g2 g3 g4 g5 g6
  refine ga Tryz.func156 Tryz.ntmps156 Tryz.results156 fun E hE=>?_
  refine qK (hC) (qI 0 21) ?_
  refine qK (hS) [] ?_
  refine aI [(2,8),(4,8)] [(2,4)] [(qU [0,2,3,1,2,1,4,7]),[0,1,3,2,8,4,5,6,7,9,10],[0,1,3,8,2,4,5,6,7,9,10]] 21 hE (fun s=>s.at (qU [16,8]) [(7,.sc (.pt 61 0 0)),(8,.sc (.sl 60 0 l1.length))] (s.hp++(w.a.hp true++(e1.hp true++[some ⟨l1.map LetterD.cs,19,91,true,true⟩,some ⟨[e1.cs 53],25,45,true,false⟩])))) (by kernel_rfl) (qC) (by kernel_rfl) ?_ (ac 400 ?_)
  rotate_left
  rotate_right
  simp only [aQ]
  refine⟨aa 400 ?_,aa 400 ?_,aa 400 ?_⟩
  ·simp (disch:=omega) only [go_sem,seval]
   refine az (hEA) (qI 0 21) ?_
   refine az (hH) (qI 46 7) ?_
   refine⟨qC,(qI 0 62),ab (by rfl) (by rfl) ?_⟩
   try simp (disch:=omega) only [go_sem,seval]
  ·simp (disch:=omega) only [go_sem,seval]
   refine az (hEA) (qI 0 21) ?_
   refine az (hH) (qI 46 7) ?_
   refine⟨qC,(qI 0 53++qI 54 8++qI 53 1),ab (by rfl) (by rfl) ?_⟩
   try simp (disch:=omega) only [go_sem,seval]
  ·simp (disch:=omega) only [go_sem,seval]
   refine az (hEA) (qI 0 21) ?_
   refine az (hH) (qI 47 7) ?_
   refine⟨qC,(qI 0 46++qI 47 15++qI 46 1),ab (by rfl) (by rfl) ?_⟩
   try simp (disch:=omega) only [go_sem,seval]
  refine qX ?_
  refine qK (hset) (qI 24 21++qI 53 7++qI 45 1) ?_
  refine qK (hpost) (qI 53 7++qI 31 15++qI 60 1) ?_
  exact cc (qI 0 21++qI 53 7++qI 31 7++qI 62 7)
 rw [vY h0] at hR
 rw [h0] at hS
 have hEA:ae Tryz.prog 144 [.ag (w.cs 0),.sc (.int .i64 2)] (w.hp false) (.ag (w.b.cs 21)) (w.hp false++w.b.hp true):=bF w 2 hw.s.a.own hw.s.a.far hw.s.a.subs hw.s.a.halfs hw.s.a.list hw.s.a.done hw.s.a.over hw.s.b.own hw.s.b.far hw.s.b.subs hw.s.b.halfs hw.s.b.list hw.s.b.done hw.s.b.over
 have hH:=uy w.b x hw.s.b hw.pb
 have hsm:=gu (e:=w.b) (x:=x) hw.s.b
 have hone:=nd (e:=w.b) (x:=x)
 obtain⟨pr,hpr⟩:∃ p,p=cZ w.b x:=⟨_,rfl⟩
 rw [←hpr] at hH hsm hone hR
 obtain⟨e1,l1⟩:=pr
 dsimp only at hH hsm hone hR
 have hends:=aE (side:=2) (l:=l1) (w:={ w with b:=e1 })
 rw [←hR] at hends
 have hset:=fM w e1
 have hpost:=eN { w with b:=e1 } l1 ⟨hw.s.bag,hw.s.past,hw.s.keys,hw.s.tags,hw.s.nums,hw.s.ansA,hw.s.ansB⟩ (by omega)
 rw [←hR] at hpost
 clear hR hpr
 obtain⟨ra,rb,bag,past,wA,wB,rA,rB,known,nums,nsA,nsB⟩:=R
 obtain⟨keys,tags⟩:=known
 dsimp only at hends
 obtain⟨g1,g2,g3,g4,g5,g6⟩:=hends
 replace g1:=g1.symm
 replace g2:=g2.symm
 replace g3:=g3.symm
 replace g4:=g4.symm
 replace g5:=g5.symm
 replace g6:=g6.symm
 subst g1 g2 g3 g4 g5 g6
 refine ga Tryz.func156 Tryz.ntmps156 Tryz.results156 fun E hE=>?_
 refine qK (hC) (qI 0 21) ?_
 refine qK (hS) [] ?_
 refine aI [(2,8),(4,8)] [(2,4)] [(qU [0,2,3,1,2,1,4,7]),[0,1,3,2,8,4,5,6,7,9,10],[0,1,3,8,2,4,5,6,7,9,10]] 21 hE (fun s=>s.at (qU [16,8]) [(7,.sc (.pt 61 0 0)),(8,.sc (.sl 60 0 l1.length))] (s.hp++(w.b.hp true++(e1.hp true++[some ⟨l1.map LetterD.cs,19,91,true,true⟩,some ⟨[e1.cs 53],25,45,true,false⟩])))) (by kernel_rfl) (qC) (by kernel_rfl) ?_ (ac 400 ?_)
 rotate_left
 rotate_right
 simp only [aQ]
 refine⟨aa 400 ?_,aa 400 ?_,aa 400 ?_⟩
 ·simp (disch:=omega) only [go_sem,seval]
  refine az (hEA) (qI 0 21) ?_
  refine az (hH) (qI 46 7) ?_
  refine⟨qC,(qI 0 62),ab (by rfl) (by rfl) ?_⟩
  try simp (disch:=omega) only [go_sem,seval]
 ·simp (disch:=omega) only [go_sem,seval]
  refine az (hEA) (qI 0 21) ?_
  refine az (hH) (qI 46 7) ?_
  refine⟨qC,(qI 0 53++qI 54 8++qI 53 1),ab (by rfl) (by rfl) ?_⟩
  try simp (disch:=omega) only [go_sem,seval]
 ·simp (disch:=omega) only [go_sem,seval]
  refine az (hEA) (qI 0 21) ?_
  refine az (hH) (qI 47 7) ?_
  refine⟨qC,(qI 0 46++qI 47 15++qI 46 1),ab (by rfl) (by rfl) ?_⟩
  try simp (disch:=omega) only [go_sem,seval]
 refine qX ?_
 refine qK (hset) (qI 24 21++qI 53 7++qI 45 1) ?_
 refine qK (hpost) (qI 24 7++qI 53 7++qI 38 8++qI 60 1) ?_
 exact cc (qI 0 21++qI 24 7++qI 53 7++qI 62 7)
theorem zh (w:WorldD) (x:LetterD) (hw:SmallWP w):ae Tryz.prog 129 [.ag (w.cs 0),.ag x.cs] (w.hp false) (.ag ((gN w x).cs 21)) (w.hp false++(gN w x).hp true):=by
 have hC:=ib w hw.s
 have hS:=dD x.to
 obtain⟨R,hR⟩:∃ R,R=gN w x:=⟨_,rfl⟩
 rw [←hR]
 rcases kT x.to with h0|h0|h0
 ·rw [vW h0] at hR
  subst hR
  rw [h0] at hS
  refine ga Tryz.func129 Tryz.ntmps129 Tryz.results129 fun E hE=>?_
  refine qK (hS) [] ?_
  refine qK (hC) (qI 0 21) ?_
  exact cc (qI 0 21++qI 24 21)
 ·rw [vX h0] at hR
  rw [h0] at hS
  have hEA:ae Tryz.prog 113 [.ag (w.cs 0),.sc (.int .i64 1)] (w.hp false) (.ag (w.a.cs 21)) (w.hp false++w.a.hp true):=bG w 1 hw.s.a.own hw.s.a.far hw.s.a.subs hw.s.a.halfs hw.s.a.list hw.s.a.done hw.s.a.over hw.s.b.own hw.s.b.far hw.s.b.subs hw.s.b.halfs hw.s.b.list hw.s.b.done hw.s.b.over
  have hH:=uz w.a x hw.s.a hw.pa
  have hsm:=gu (e:=w.a) (x:=x) hw.s.a
  have hone:=nd (e:=w.a) (x:=x)
  obtain⟨pr,hpr⟩:∃ p,p=cZ w.a x:=⟨_,rfl⟩
  rw [←hpr] at hH hsm hone hR
  obtain⟨e1,l1⟩:=pr
  dsimp only at hH hsm hone hR
  have hends:=aE (side:=1) (l:=l1) (w:={ w with a:=e1 })
  rw [←hR] at hends
  have hset:=dF w e1
  have hpost:=dH { w with a:=e1 } l1 ⟨hsm,hw.s.b,hw.s.bag,hw.s.past,hw.s.keys,hw.s.tags,hw.s.nums,hw.s.ansA,hw.s.ansB⟩ (by omega)
  rw [←hR] at hpost
  clear hR hpr
  obtain⟨ra,rb,bag,past,wA,wB,rA,rB,known,nums,nsA,nsB⟩:=R
  obtain⟨keys,tags⟩:=known
  dsimp only at hends
  obtain⟨g1,g2,g3,g4,g5,g6⟩:=hends
  replace g1:=g1.symm
  replace g2:=g2.symm
  replace g3:=g3.symm
  replace g4:=g4.symm
  replace g5:=g5.symm
  replace g6:=g6.symm
  subst g1 g2 g3 g4 g5 g6
  refine ga Tryz.func129 Tryz.ntmps129 Tryz.results129 fun E hE=>?_
  refine qK (hS) [] ?_
  refine qK (hC) (qI 0 21) ?_
  refine aI [(2,8),(4,8)] [(2,4)] [(qU [0,2,3,1,2,1,4,7]),[0,1,3,2,8,4,5,6,7,9,10],[0,1,3,8,2,4,5,6,7,9,10]] 21 hE (fun s=>s.at (qU [16,8]) [(6,.sc (.pt 60 0 0)),(7,.sc (.sl 59 0 l1.length))] (s.hp++(w.a.hp true++(e1.hpS++[some ⟨l1.map LetterD.cs,19,91,true,true⟩,some ⟨[e1.cs 52],25,45,true,false⟩])))) (by kernel_rfl) (qC) (by kernel_rfl) ?_ (ac 400 ?_)
  rotate_left
  rotate_right
  simp only [aQ]
  refine⟨aa 400 ?_,aa 400 ?_,aa 400 ?_⟩
  ·simp (disch:=omega) only [go_sem,seval]
   refine az (hEA) (qI 24 21) ?_
   refine az (hH) (qI 45 7) ?_
   refine⟨qC,(qI 0 61),ab (by rfl) (by rfl) ?_⟩
   try simp (disch:=omega) only [go_sem,seval]
  ·simp (disch:=omega) only [go_sem,seval]
   refine az (hEA) (qI 24 21) ?_
   refine az (hH) (qI 45 7) ?_
   refine⟨qC,(qI 0 52++qI 53 8++qI 52 1),ab (by rfl) (by rfl) ?_⟩
   try simp (disch:=omega) only [go_sem,seval]
  ·simp (disch:=omega) only [go_sem,seval]
   refine az (hEA) (qI 24 21) ?_
   refine az (hH) (qI 46 7) ?_
   refine⟨qC,(qI 0 45++qI 46 15++qI 45 1),ab (by rfl) (by rfl) ?_⟩
   try simp (disch:=omega) only [go_sem,seval]
  refine qX ?_
  refine qK (hset) (qI 24 21++qI 52 7) ?_
  refine qK (hpost) (qI 52 7++qI 31 14++qI 59 1) ?_
  exact cc (qI 0 21++qI 61 21)
 rw [vY h0] at hR
 rw [h0] at hS
 have hEA:ae Tryz.prog 113 [.ag (w.cs 0),.sc (.int .i64 2)] (w.hp false) (.ag (w.b.cs 21)) (w.hp false++w.b.hp true):=bG w 2 hw.s.a.own hw.s.a.far hw.s.a.subs hw.s.a.halfs hw.s.a.list hw.s.a.done hw.s.a.over hw.s.b.own hw.s.b.far hw.s.b.subs hw.s.b.halfs hw.s.b.list hw.s.b.done hw.s.b.over
 have hH:=uz w.b x hw.s.b hw.pb
 have hsm:=gu (e:=w.b) (x:=x) hw.s.b
 have hone:=nd (e:=w.b) (x:=x)
 obtain⟨pr,hpr⟩:∃ p,p=cZ w.b x:=⟨_,rfl⟩
 rw [←hpr] at hH hsm hone hR
 obtain⟨e1,l1⟩:=pr
 dsimp only at hH hsm hone hR
 have hends:=aE (side:=2) (l:=l1) (w:={ w with b:=e1 })
 rw [←hR] at hends
 have hset:=dG w e1
 have hpost:=dI { w with b:=e1 } l1 ⟨hw.s.a,hsm,hw.s.bag,hw.s.past,hw.s.keys,hw.s.tags,hw.s.nums,hw.s.ansA,hw.s.ansB⟩ (by omega)
 rw [←hR] at hpost
 clear hR hpr
 obtain⟨ra,rb,bag,past,wA,wB,rA,rB,known,nums,nsA,nsB⟩:=R
 obtain⟨keys,tags⟩:=known
 dsimp only at hends
 obtain⟨g1,g2,g3,g4,g5,g6⟩:=hends
 replace g1:=g1.symm
 replace g2:=g2.symm
 replace g3:=g3.symm
 replace g4:=g4.symm
 replace g5:=g5.symm
 replace g6:=g6.symm
 subst g1 g2 g3 g4 g5 g6
 refine ga Tryz.func129 Tryz.ntmps129 Tryz.results129 fun E hE=>?_
 refine qK (hS) [] ?_
 refine qK (hC) (qI 0 21) ?_
 refine aI [(2,8),(4,8)] [(2,4)] [(qU [0,2,3,1,2,1,4,7]),[0,1,3,2,8,4,5,6,7,9,10],[0,1,3,8,2,4,5,6,7,9,10]] 21 hE (fun s=>s.at (qU [16,8]) [(6,.sc (.pt 60 0 0)),(7,.sc (.sl 59 0 l1.length))] (s.hp++(w.b.hp true++(e1.hpS++[some ⟨l1.map LetterD.cs,19,91,true,true⟩,some ⟨[e1.cs 52],25,45,true,false⟩])))) (by kernel_rfl) (qC) (by kernel_rfl) ?_ (ac 400 ?_)
 rotate_left
 rotate_right
 simp only [aQ]
 refine⟨aa 400 ?_,aa 400 ?_,aa 400 ?_⟩
 ·simp (disch:=omega) only [go_sem,seval]
  refine az (hEA) (qI 24 21) ?_
  refine az (hH) (qI 45 7) ?_
  refine⟨qC,(qI 0 61),ab (by rfl) (by rfl) ?_⟩
  try simp (disch:=omega) only [go_sem,seval]
 ·simp (disch:=omega) only [go_sem,seval]
  refine az (hEA) (qI 24 21) ?_
  refine az (hH) (qI 45 7) ?_
  refine⟨qC,(qI 0 52++qI 53 8++qI 52 1),ab (by rfl) (by rfl) ?_⟩
  try simp (disch:=omega) only [go_sem,seval]
 ·simp (disch:=omega) only [go_sem,seval]
  refine az (hEA) (qI 24 21) ?_
  refine az (hH) (qI 46 7) ?_
  refine⟨qC,(qI 0 45++qI 46 15++qI 45 1),ab (by rfl) (by rfl) ?_⟩
  try simp (disch:=omega) only [go_sem,seval]
 refine qX ?_
 refine qK (hset) (qI 24 21++qI 52 7) ?_
 refine qK (hpost) (qI 24 7++qI 52 7++qI 38 7++qI 59 1) ?_
 exact cc (qI 0 21++qI 61 21)
end
section
open Go.RowKit
attribute [go_sem] eK
def iC (k:Int):AddrD:=⟨k,k+1,((k+1+1).tmod 3 == 0),((k+1+1+1).tmod 3 == 0)⟩
theorem j1 (l:List AddrD) (k0:Int) (hl:l.length≤16777216) (h0:0≤k0) (h1:k0≤1099511627776):ae Tryz.prog 95 [.sc (.sl 0 0 l.length),.sc (.int .i64 k0)] [some ⟨l.map AddrD.cs,4,88,true,true⟩] (.sc (.int .i64 (k0+4*(l.length:Int)))) [some ⟨(fj iC 4 k0 l.length).map AddrD.cs,4,88,true,true⟩]:=by
 refine qE Tryz.func95 Tryz.ntmps95 Tryz.results95 fun E hE=>?_
 refine an 1 hE (fun s (x:Nat×Int×List AddrD)=>s.at (qU [6,38]) [(5,.sc (.int .i64 (x.1:Nat))),(1,.sc (.int .i64 x.2.1))] ([some ⟨x.2.2.map AddrD.cs,4,88,true,true⟩])) (fun (x:Nat×Int×List AddrD)=>x.1≤l.length∧x.2.2.length=l.length∧x.2.1=k0+4*(x.1:Int)∧x.2.2.take x.1=fj iC 4 k0 x.1) (fun (x:Nat×Int×List AddrD)=>l.length - x.1) (0,k0,l) (qI 0 1) (qC) (⟨Nat.zero_le _,rfl,by simp,rfl⟩) (af (by rfl) (by rfl) ?_) fun x hx N hN=>?_
 ·exact qY
 obtain⟨i,k,m⟩:=x
 obtain⟨hx1,hx2,hx3,hx4⟩:=hx
 dsimp only at hx1 hx2 hx3 hx4
 refine qR ?_
 refine qB (fun h=>?_) fun h=>?_
 ·have hi:i < m.length:=by omega
  try simp (disch:=omega) only [go_sem,seval,ao hi,dA hi]
  have ht:=gq hi (iC k)
  rw [hx4,hx3,←ix,←hx3] at ht
  refine⟨qC,hN _ (i+1,k+1+1+1+1,m.set i (iC k)) (qI 0 1) (by (try dsimp only);exact⟨by omega,by simp;omega,by omega,ht⟩) (by (try dsimp only);omega) (af (by rfl) (by rfl) ?_)⟩
  try simp (disch:=omega) only [go_sem,seval]
  try exact⟨by omega,bl rfl⟩
  try exact bl rfl
 have e:i=l.length:=by omega
 subst e
 rw [List.take_of_length_le (by omega)] at hx4
 subst hx4
 refine ah (qI 0 1) (qC) _ (by simp only [go_sem];rfl) (by rfl) (by rfl) ?_
 simp (disch:=omega) only [go_sem,seval]
 try exact hx3
 try exact⟨hx3,rfl⟩
theorem j2 (k0:Int) (n:Nat) (hl:n≤16777216) (h0:0≤k0) (h1:k0≤1099511627776):ae Tryz.prog 100 [.sc (.sl 0 0 n),.sc (.int .i64 k0)] [some ⟨(fj iC 4 k0 n).map AddrD.cs,4,88,false,true⟩] (.sc (.int .i64 (k0+4*(n:Int)))) [some ⟨(fj iC 4 k0 n).map AddrD.cs,4,88,false,true⟩]:=by
 have hg:(fj iC 4 k0 n).length=n:=eK
 refine qE Tryz.func100 Tryz.ntmps100 Tryz.results100 fun E hE=>?_
 refine an 1 hE (fun s (x:Nat×Int)=>s.at (qU [4,1,6,46]) [(5,.sc (.int .i64 (x.1:Nat))),(1,.sc (.int .i64 x.2))] (s.hp)) (fun (x:Nat×Int)=>x.1≤n∧x.2=k0+4*(x.1:Int)) (fun (x:Nat×Int)=>n - x.1) (0,k0) (qI 0 1) (qC) (⟨Nat.zero_le _,by simp⟩) (af (by rfl) (by rfl) ?_) fun x hx N hN=>?_
 ·exact qY
 obtain⟨i,k⟩:=x
 obtain⟨hx1,hx3⟩:=hx
 dsimp only at hx1 hx3
 refine qR ?_
 refine qB (fun h=>?_) fun h=>?_
 ·have hi:i < (fj iC 4 k0 n).length:=by omega
  have he:=jC hi
  rw [←hx3] at he
  try simp (disch:=omega) only [go_sem,seval,ao hi,he,iC]
  refine⟨qC,hN _ (i+1,k+1+1+1+1) (qI 0 1) (by (try dsimp only);exact⟨by omega,by omega⟩) (by (try dsimp only);omega) (af (by rfl) (by rfl) ?_)⟩
  try simp (disch:=omega) only [go_sem,seval]
  try omega
 have e:i=n:=by omega
 subst e
 refine ah (qI 0 1) (qC) _ (by simp only [go_sem];rfl) (by rfl) (by rfl) ?_
 simp (disch:=omega) only [go_sem,seval]
 try exact hx3
def jb (k:Int):HalfD:=⟨⟨k,k+1,k+1+1⟩,k+1+1+1,k+1+1+1+1,k+1+1+1+1+1,k+1+1+1+1+1+1,k+1+1+1+1+1+1+1⟩
theorem o_ (l:List HalfD) (k0:Int) (hl:l.length≤16777216) (h0:0≤k0) (h1:k0≤1099511627776):ae Tryz.prog 97 [.sc (.sl 0 0 l.length),.sc (.int .i64 k0)] [some ⟨l.map HalfD.cs,8,213,true,true⟩] (.sc (.int .i64 (k0+8*(l.length:Int)))) [some ⟨(fj jb 8 k0 l.length).map HalfD.cs,8,213,true,true⟩]:=by
 refine qE Tryz.func97 Tryz.ntmps97 Tryz.results97 fun E hE=>?_
 refine an 1 hE (fun s (x:Nat×Int×List HalfD)=>s.at (qU [6,65]) [(5,.sc (.int .i64 (x.1:Nat))),(1,.sc (.int .i64 x.2.1))] ([some ⟨x.2.2.map HalfD.cs,8,213,true,true⟩])) (fun (x:Nat×Int×List HalfD)=>x.1≤l.length∧x.2.2.length=l.length∧x.2.1=k0+8*(x.1:Int)∧x.2.2.take x.1=fj jb 8 k0 x.1) (fun (x:Nat×Int×List HalfD)=>l.length - x.1) (0,k0,l) (qI 0 1) (qC) (⟨Nat.zero_le _,rfl,by simp,rfl⟩) (af (by rfl) (by rfl) ?_) fun x hx N hN=>?_
 ·exact qY
 obtain⟨i,k,m⟩:=x
 obtain⟨hx1,hx2,hx3,hx4⟩:=hx
 dsimp only at hx1 hx2 hx3 hx4
 refine qR ?_
 refine qB (fun h=>?_) fun h=>?_
 ·have hi:i < m.length:=by omega
  try simp (disch:=omega) only [go_sem,seval,ao hi,dA hi]
  have ht:=gq hi (jb k)
  rw [hx4,hx3,←ix,←hx3] at ht
  refine⟨qC,hN _ (i+1,k+1+1+1+1+1+1+1+1,m.set i (jb k)) (qI 0 1) (by (try dsimp only);exact⟨by omega,by simp;omega,by omega,ht⟩) (by (try dsimp only);omega) (af (by rfl) (by rfl) ?_)⟩
  try simp (disch:=omega) only [go_sem,seval]
  try exact⟨by omega,bl rfl⟩
  try exact bl rfl
 have e:i=l.length:=by omega
 subst e
 rw [List.take_of_length_le (by omega)] at hx4
 subst hx4
 refine ah (qI 0 1) (qC) _ (by simp only [go_sem];rfl) (by rfl) (by rfl) ?_
 simp (disch:=omega) only [go_sem,seval]
 try exact hx3
 try exact⟨hx3,rfl⟩
theorem pc (k0:Int) (n:Nat) (hl:n≤16777216) (h0:0≤k0) (h1:k0≤1099511627776):ae Tryz.prog 102 [.sc (.sl 0 0 n),.sc (.int .i64 k0)] [some ⟨(fj jb 8 k0 n).map HalfD.cs,8,213,false,true⟩] (.sc (.int .i64 (k0+8*(n:Int)))) [some ⟨(fj jb 8 k0 n).map HalfD.cs,8,213,false,true⟩]:=by
 have hg:(fj jb 8 k0 n).length=n:=eK
 refine qE Tryz.func102 Tryz.ntmps102 Tryz.results102 fun E hE=>?_
 refine an 1 hE (fun s (x:Nat×Int)=>s.at (qU [4,1,6,81]) [(5,.sc (.int .i64 (x.1:Nat))),(1,.sc (.int .i64 x.2))] (s.hp)) (fun (x:Nat×Int)=>x.1≤n∧x.2=k0+8*(x.1:Int)) (fun (x:Nat×Int)=>n - x.1) (0,k0) (qI 0 1) (qC) (⟨Nat.zero_le _,by simp⟩) (af (by rfl) (by rfl) ?_) fun x hx N hN=>?_
 ·exact qY
 obtain⟨i,k⟩:=x
 obtain⟨hx1,hx3⟩:=hx
 dsimp only at hx1 hx3
 refine qR ?_
 refine qB (fun h=>?_) fun h=>?_
 ·have hi:i < (fj jb 8 k0 n).length:=by omega
  have he:=jC hi
  rw [←hx3] at he
  try simp (disch:=omega) only [go_sem,seval,ao hi,he,jb]
  refine⟨qC,hN _ (i+1,k+1+1+1+1+1+1+1+1) (qI 0 1) (by (try dsimp only);exact⟨by omega,by omega⟩) (by (try dsimp only);omega) (af (by rfl) (by rfl) ?_)⟩
  try simp (disch:=omega) only [go_sem,seval]
  try omega
 have e:i=n:=by omega
 subst e
 refine ah (qI 0 1) (qC) _ (by simp only [go_sem];rfl) (by rfl) (by rfl) ?_
 simp (disch:=omega) only [go_sem,seval]
 try exact hx3
def lH (k:Int):TagD:=⟨k,k+1,k+1+1,k+1+1+1,k+1+1+1+1⟩
theorem rI (l:List TagD) (k0:Int) (hl:l.length≤16777216) (h0:0≤k0) (h1:k0≤1099511627776):ae Tryz.prog 99 [.sc (.sl 0 0 l.length),.sc (.int .i64 k0)] [some ⟨l.map TagD.cs,5,89,true,true⟩] (.sc (.int .i64 (k0+5*(l.length:Int)))) [some ⟨(fj lH 5 k0 l.length).map TagD.cs,5,89,true,true⟩]:=by
 refine qE Tryz.func99 Tryz.ntmps99 Tryz.results99 fun E hE=>?_
 refine an 1 hE (fun s (x:Nat×Int×List TagD)=>s.at (qU [6,41]) [(5,.sc (.int .i64 (x.1:Nat))),(1,.sc (.int .i64 x.2.1))] ([some ⟨x.2.2.map TagD.cs,5,89,true,true⟩])) (fun (x:Nat×Int×List TagD)=>x.1≤l.length∧x.2.2.length=l.length∧x.2.1=k0+5*(x.1:Int)∧x.2.2.take x.1=fj lH 5 k0 x.1) (fun (x:Nat×Int×List TagD)=>l.length - x.1) (0,k0,l) (qI 0 1) (qC) (⟨Nat.zero_le _,rfl,by simp,rfl⟩) (af (by rfl) (by rfl) ?_) fun x hx N hN=>?_
 ·exact qY
 obtain⟨i,k,m⟩:=x
 obtain⟨hx1,hx2,hx3,hx4⟩:=hx
 dsimp only at hx1 hx2 hx3 hx4
 refine qR ?_
 refine qB (fun h=>?_) fun h=>?_
 ·have hi:i < m.length:=by omega
  try simp (disch:=omega) only [go_sem,seval,ao hi,dA hi]
  have ht:=gq hi (lH k)
  rw [hx4,hx3,←ix,←hx3] at ht
  refine⟨qC,hN _ (i+1,k+1+1+1+1+1,m.set i (lH k)) (qI 0 1) (by (try dsimp only);exact⟨by omega,by simp;omega,by omega,ht⟩) (by (try dsimp only);omega) (af (by rfl) (by rfl) ?_)⟩
  try simp (disch:=omega) only [go_sem,seval]
  try exact⟨by omega,bl rfl⟩
  try exact bl rfl
 have e:i=l.length:=by omega
 subst e
 rw [List.take_of_length_le (by omega)] at hx4
 subst hx4
 refine ah (qI 0 1) (qC) _ (by simp only [go_sem];rfl) (by rfl) (by rfl) ?_
 simp (disch:=omega) only [go_sem,seval]
 try exact hx3
 try exact⟨hx3,rfl⟩
theorem rJ (k0:Int) (n:Nat) (hl:n≤16777216) (h0:0≤k0) (h1:k0≤1099511627776):ae Tryz.prog 104 [.sc (.sl 0 0 n),.sc (.int .i64 k0)] [some ⟨(fj lH 5 k0 n).map TagD.cs,5,89,false,true⟩] (.sc (.int .i64 (k0+5*(n:Int)))) [some ⟨(fj lH 5 k0 n).map TagD.cs,5,89,false,true⟩]:=by
 have hg:(fj lH 5 k0 n).length=n:=eK
 refine qE Tryz.func104 Tryz.ntmps104 Tryz.results104 fun E hE=>?_
 refine an 1 hE (fun s (x:Nat×Int)=>s.at (qU [4,1,6,51]) [(5,.sc (.int .i64 (x.1:Nat))),(1,.sc (.int .i64 x.2))] (s.hp)) (fun (x:Nat×Int)=>x.1≤n∧x.2=k0+5*(x.1:Int)) (fun (x:Nat×Int)=>n - x.1) (0,k0) (qI 0 1) (qC) (⟨Nat.zero_le _,by simp⟩) (af (by rfl) (by rfl) ?_) fun x hx N hN=>?_
 ·exact qY
 obtain⟨i,k⟩:=x
 obtain⟨hx1,hx3⟩:=hx
 dsimp only at hx1 hx3
 refine qR ?_
 refine qB (fun h=>?_) fun h=>?_
 ·have hi:i < (fj lH 5 k0 n).length:=by omega
  have he:=jC hi
  rw [←hx3] at he
  try simp (disch:=omega) only [go_sem,seval,ao hi,he,lH]
  refine⟨qC,hN _ (i+1,k+1+1+1+1+1) (qI 0 1) (by (try dsimp only);exact⟨by omega,by omega⟩) (by (try dsimp only);omega) (af (by rfl) (by rfl) ?_)⟩
  try simp (disch:=omega) only [go_sem,seval]
  try omega
 have e:i=n:=by omega
 subst e
 refine ah (qI 0 1) (qC) _ (by simp only [go_sem];rfl) (by rfl) (by rfl) ?_
 simp (disch:=omega) only [go_sem,seval]
 try exact hx3
def dT (k:Int):LetterD:=⟨k,k+1,k+1+1,k+1+1+1,k+1+1+1+1,k+1+1+1+1+1,k+1+1+1+1+1+1,k+1+1+1+1+1+1+1,k+1+1+1+1+1+1+1+1,⟨k+1+1+1+1+1+1+1+1+1,k+1+1+1+1+1+1+1+1+1+1,k+1+1+1+1+1+1+1+1+1+1+1,k+1+1+1+1+1+1+1+1+1+1+1+1,k+1+1+1+1+1+1+1+1+1+1+1+1+1⟩,k+1+1+1+1+1+1+1+1+1+1+1+1+1+1,k+1+1+1+1+1+1+1+1+1+1+1+1+1+1+1,((k+1+1+1+1+1+1+1+1+1+1+1+1+1+1+1+1).tmod 3 == 0),k+1+1+1+1+1+1+1+1+1+1+1+1+1+1+1+1+1,oJ (k+1+1+1+1+1+1+1+1+1+1+1+1+1+1+1+1+1+1)⟩
theorem iZ (l:List LetterD) (k0:Int) (hl:l.length≤16777216) (h0:0≤k0) (h1:k0≤1099511627776):ae Tryz.prog 43 [.sc (.sl 0 0 l.length),.sc (.int .i64 k0)] [some ⟨l.map LetterD.cs,19,91,true,true⟩] (.sc (.int .i64 (k0+19*(l.length:Int)))) [some ⟨(fj dT 19 k0 l.length).map LetterD.cs,19,91,true,true⟩]:=by
 refine qE Tryz.func43 Tryz.ntmps43 Tryz.results43 fun E hE=>?_
 refine an 1 hE (fun s (x:Nat×Int×List LetterD)=>s.at (qU [6,147]) [(5,.sc (.int .i64 (x.1:Nat))),(1,.sc (.int .i64 x.2.1))] ([some ⟨x.2.2.map LetterD.cs,19,91,true,true⟩])) (fun (x:Nat×Int×List LetterD)=>x.1≤l.length∧x.2.2.length=l.length∧x.2.1=k0+19*(x.1:Int)∧x.2.2.take x.1=fj dT 19 k0 x.1) (fun (x:Nat×Int×List LetterD)=>l.length - x.1) (0,k0,l) (qI 0 1) (qC) (⟨Nat.zero_le _,rfl,by simp,rfl⟩) (af (by rfl) (by rfl) ?_) fun x hx N hN=>?_
 ·exact qY
 obtain⟨i,k,m⟩:=x
 obtain⟨hx1,hx2,hx3,hx4⟩:=hx
 dsimp only at hx1 hx2 hx3 hx4
 refine qR ?_
 refine qB (fun h=>?_) fun h=>?_
 ·have hi:i < m.length:=by omega
  try simp (disch:=omega) only [go_sem,seval,ao hi,dA hi]
  refine qK (ec (k+1+1+1+1+1+1+1+1+1+1+1+1+1+1+1+1+1+1) (by omega)) [] ?_
  have ht:=gq hi (dT k)
  rw [hx4,hx3,←ix,←hx3] at ht
  refine⟨qC,hN _ (i+1,k+1+1+1+1+1+1+1+1+1+1+1+1+1+1+1+1+1+1+1,m.set i (dT k)) (qI 0 1) (by (try dsimp only);exact⟨by omega,by simp;omega,by omega,ht⟩) (by (try dsimp only);omega) (af (by rfl) (by rfl) ?_)⟩
  try simp (disch:=omega) only [go_sem,seval]
  try exact⟨by omega,bl rfl⟩
  try exact bl rfl
 have e:i=l.length:=by omega
 subst e
 rw [List.take_of_length_le (by omega)] at hx4
 subst hx4
 refine ah (qI 0 1) (qC) _ (by simp only [go_sem];rfl) (by rfl) (by rfl) ?_
 simp (disch:=omega) only [go_sem,seval]
 try exact hx3
 try exact⟨hx3,rfl⟩
theorem i1 (k0:Int) (n:Nat) (hl:n≤16777216) (h0:0≤k0) (h1:k0≤1099511627776):ae Tryz.prog 46 [.sc (.sl 0 0 n),.sc (.int .i64 k0)] [some ⟨(fj dT 19 k0 n).map LetterD.cs,19,91,false,true⟩] (.sc (.int .i64 (k0+19*(n:Int)))) [some ⟨(fj dT 19 k0 n).map LetterD.cs,19,91,false,true⟩]:=by
 have hg:(fj dT 19 k0 n).length=n:=eK
 refine qE Tryz.func46 Tryz.ntmps46 Tryz.results46 fun E hE=>?_
 refine an 1 hE (fun s (x:Nat×Int)=>s.at (qU [4,1,6,185]) [(5,.sc (.int .i64 (x.1:Nat))),(1,.sc (.int .i64 x.2))] (s.hp)) (fun (x:Nat×Int)=>x.1≤n∧x.2=k0+19*(x.1:Int)) (fun (x:Nat×Int)=>n - x.1) (0,k0) (qI 0 1) (qC) (⟨Nat.zero_le _,by simp⟩) (af (by rfl) (by rfl) ?_) fun x hx N hN=>?_
 ·exact qY
 obtain⟨i,k⟩:=x
 obtain⟨hx1,hx3⟩:=hx
 dsimp only at hx1 hx3
 refine qR ?_
 refine qB (fun h=>?_) fun h=>?_
 ·have hi:i < (fj dT 19 k0 n).length:=by omega
  have he:=jC hi
  rw [←hx3] at he
  try simp (disch:=omega) only [go_sem,seval,ao hi,he,dT]
  refine qD [0,1,2,3,4,5,6,7] ?_
  try simp (disch:=omega) only [go_sem,seval,ao hi,he,dT]
  refine az (ec (k+1+1+1+1+1+1+1+1+1+1+1+1+1+1+1+1+1+1) (by omega)) [] ?_
  refine⟨qC,ac 400 ?_⟩
  try simp (disch:=omega) only [go_sem,seval,dT,beq_self_eq_true]
  refine⟨qC,hN _ (i+1,k+1+1+1+1+1+1+1+1+1+1+1+1+1+1+1+1+1+1+1) (qI 0 1) (by (try dsimp only);exact⟨by omega,by omega⟩) (by (try dsimp only);omega) (af (by rfl) (by rfl) ?_)⟩
  try simp (disch:=omega) only [go_sem,seval]
  try omega
 have e:i=n:=by omega
 subst e
 refine ah (qI 0 1) (qC) _ (by simp only [go_sem];rfl) (by rfl) (by rfl) ?_
 simp (disch:=omega) only [go_sem,seval]
 try exact hx3
def lI (k:Int):SubD:=⟨⟨k,k+1,k+1+1⟩,k+1+1+1,((k+1+1+1+1).tmod 3 == 0),k+1+1+1+1+1,k+1+1+1+1+1+1,k+1+1+1+1+1+1+1,k+1+1+1+1+1+1+1+1,k+1+1+1+1+1+1+1+1+1⟩
theorem rK (l:List SubD) (k0:Int) (hl:l.length≤16777216) (h0:0≤k0) (h1:k0≤1099511627776):ae Tryz.prog 96 [.sc (.sl 0 0 l.length),.sc (.int .i64 k0)] [some ⟨l.map SubD.cs,10,201,true,true⟩] (.sc (.int .i64 (k0+10*(l.length:Int)))) [some ⟨(fj lI 10 k0 l.length).map SubD.cs,10,201,true,true⟩]:=by
 refine qE Tryz.func96 Tryz.ntmps96 Tryz.results96 fun E hE=>?_
 refine an 1 hE (fun s (x:Nat×Int×List SubD)=>s.at (qU [6,81]) [(5,.sc (.int .i64 (x.1:Nat))),(1,.sc (.int .i64 x.2.1))] ([some ⟨x.2.2.map SubD.cs,10,201,true,true⟩])) (fun (x:Nat×Int×List SubD)=>x.1≤l.length∧x.2.2.length=l.length∧x.2.1=k0+10*(x.1:Int)∧x.2.2.take x.1=fj lI 10 k0 x.1) (fun (x:Nat×Int×List SubD)=>l.length - x.1) (0,k0,l) (qI 0 1) (qC) (⟨Nat.zero_le _,rfl,by simp,rfl⟩) (af (by rfl) (by rfl) ?_) fun x hx N hN=>?_
 ·exact qY
 obtain⟨i,k,m⟩:=x
 obtain⟨hx1,hx2,hx3,hx4⟩:=hx
 dsimp only at hx1 hx2 hx3 hx4
 refine qR ?_
 refine qB (fun h=>?_) fun h=>?_
 ·have hi:i < m.length:=by omega
  try simp (disch:=omega) only [go_sem,seval,ao hi,dA hi]
  have ht:=gq hi (lI k)
  rw [hx4,hx3,←ix,←hx3] at ht
  refine⟨qC,hN _ (i+1,k+1+1+1+1+1+1+1+1+1+1,m.set i (lI k)) (qI 0 1) (by (try dsimp only);exact⟨by omega,by simp;omega,by omega,ht⟩) (by (try dsimp only);omega) (af (by rfl) (by rfl) ?_)⟩
  try simp (disch:=omega) only [go_sem,seval]
  try exact⟨by omega,bl rfl⟩
  try exact bl rfl
 have e:i=l.length:=by omega
 subst e
 rw [List.take_of_length_le (by omega)] at hx4
 subst hx4
 refine ah (qI 0 1) (qC) _ (by simp only [go_sem];rfl) (by rfl) (by rfl) ?_
 simp (disch:=omega) only [go_sem,seval]
 try exact hx3
 try exact⟨hx3,rfl⟩
theorem rL (k0:Int) (n:Nat) (hl:n≤16777216) (h0:0≤k0) (h1:k0≤1099511627776):ae Tryz.prog 101 [.sc (.sl 0 0 n),.sc (.int .i64 k0)] [some ⟨(fj lI 10 k0 n).map SubD.cs,10,201,false,true⟩] (.sc (.int .i64 (k0+10*(n:Int)))) [some ⟨(fj lI 10 k0 n).map SubD.cs,10,201,false,true⟩]:=by
 have hg:(fj lI 10 k0 n).length=n:=eK
 refine qE Tryz.func101 Tryz.ntmps101 Tryz.results101 fun E hE=>?_
 refine an 1 hE (fun s (x:Nat×Int)=>s.at (qU [4,1,6,101]) [(5,.sc (.int .i64 (x.1:Nat))),(1,.sc (.int .i64 x.2))] (s.hp)) (fun (x:Nat×Int)=>x.1≤n∧x.2=k0+10*(x.1:Int)) (fun (x:Nat×Int)=>n - x.1) (0,k0) (qI 0 1) (qC) (⟨Nat.zero_le _,by simp⟩) (af (by rfl) (by rfl) ?_) fun x hx N hN=>?_
 ·exact qY
 obtain⟨i,k⟩:=x
 obtain⟨hx1,hx3⟩:=hx
 dsimp only at hx1 hx3
 refine qR ?_
 refine qB (fun h=>?_) fun h=>?_
 ·have hi:i < (fj lI 10 k0 n).length:=by omega
  have he:=jC hi
  rw [←hx3] at he
  try simp (disch:=omega) only [go_sem,seval,ao hi,he,lI]
  refine⟨qC,hN _ (i+1,k+1+1+1+1+1+1+1+1+1+1) (qI 0 1) (by (try dsimp only);exact⟨by omega,by omega⟩) (by (try dsimp only);omega) (af (by rfl) (by rfl) ?_)⟩
  try simp (disch:=omega) only [go_sem,seval]
  try omega
 have e:i=n:=by omega
 subst e
 refine ah (qI 0 1) (qC) _ (by simp only [go_sem];rfl) (by rfl) (by rfl) ?_
 simp (disch:=omega) only [go_sem,seval]
 try exact hx3
def fm (k:Int):PieceD:=⟨k,oJ (k+1)⟩
theorem nV (l:List PieceD) (k0:Int) (hl:l.length≤16777216) (h0:0≤k0) (h1:k0≤1099511627776):ae Tryz.prog 196 [.sc (.sl 0 0 l.length),.sc (.int .i64 k0)] [some ⟨l.map PieceD.cs,2,256,true,true⟩] (.sc (.int .i64 (k0+2*(l.length:Int)))) [some ⟨(fj fm 2 k0 l.length).map PieceD.cs,2,256,true,true⟩]:=by
 refine qE Tryz.func196 Tryz.ntmps196 Tryz.results196 fun E hE=>?_
 refine an 1 hE (fun s (x:Nat×Int×List PieceD)=>s.at (qU [6,21]) [(5,.sc (.int .i64 (x.1:Nat))),(1,.sc (.int .i64 x.2.1))] ([some ⟨x.2.2.map PieceD.cs,2,256,true,true⟩])) (fun (x:Nat×Int×List PieceD)=>x.1≤l.length∧x.2.2.length=l.length∧x.2.1=k0+2*(x.1:Int)∧x.2.2.take x.1=fj fm 2 k0 x.1) (fun (x:Nat×Int×List PieceD)=>l.length - x.1) (0,k0,l) (qI 0 1) (qC) (⟨Nat.zero_le _,rfl,by simp,rfl⟩) (af (by rfl) (by rfl) ?_) fun x hx N hN=>?_
 ·exact qY
 obtain⟨i,k,m⟩:=x
 obtain⟨hx1,hx2,hx3,hx4⟩:=hx
 dsimp only at hx1 hx2 hx3 hx4
 refine qR ?_
 refine qB (fun h=>?_) fun h=>?_
 ·have hi:i < m.length:=by omega
  try simp (disch:=omega) only [go_sem,seval,ao hi,dA hi]
  refine qK (ec (k+1) (by omega)) [] ?_
  have ht:=gq hi (fm k)
  rw [hx4,hx3,←ix,←hx3] at ht
  refine⟨qC,hN _ (i+1,k+1+1,m.set i (fm k)) (qI 0 1) (by (try dsimp only);exact⟨by omega,by simp;omega,by omega,ht⟩) (by (try dsimp only);omega) (af (by rfl) (by rfl) ?_)⟩
  try simp (disch:=omega) only [go_sem,seval]
  try exact⟨by omega,bl rfl⟩
  try exact bl rfl
 have e:i=l.length:=by omega
 subst e
 rw [List.take_of_length_le (by omega)] at hx4
 subst hx4
 refine ah (qI 0 1) (qC) _ (by simp only [go_sem];rfl) (by rfl) (by rfl) ?_
 simp (disch:=omega) only [go_sem,seval]
 try exact hx3
 try exact⟨hx3,rfl⟩
theorem nW (k0:Int) (n:Nat) (hl:n≤16777216) (h0:0≤k0) (h1:k0≤1099511627776):ae Tryz.prog 197 [.sc (.sl 0 0 n),.sc (.int .i64 k0)] [some ⟨(fj fm 2 k0 n).map PieceD.cs,2,256,false,true⟩] (.sc (.int .i64 (k0+2*(n:Int)))) [some ⟨(fj fm 2 k0 n).map PieceD.cs,2,256,false,true⟩]:=by
 have hg:(fj fm 2 k0 n).length=n:=eK
 refine qE Tryz.func197 Tryz.ntmps197 Tryz.results197 fun E hE=>?_
 refine an 1 hE (fun s (x:Nat×Int)=>s.at (qU [4,1,6,25]) [(5,.sc (.int .i64 (x.1:Nat))),(1,.sc (.int .i64 x.2))] (s.hp)) (fun (x:Nat×Int)=>x.1≤n∧x.2=k0+2*(x.1:Int)) (fun (x:Nat×Int)=>n - x.1) (0,k0) (qI 0 1) (qC) (⟨Nat.zero_le _,by simp⟩) (af (by rfl) (by rfl) ?_) fun x hx N hN=>?_
 ·exact qY
 obtain⟨i,k⟩:=x
 obtain⟨hx1,hx3⟩:=hx
 dsimp only at hx1 hx3
 refine qR ?_
 refine qB (fun h=>?_) fun h=>?_
 ·have hi:i < (fj fm 2 k0 n).length:=by omega
  have he:=jC hi
  rw [←hx3] at he
  try simp (disch:=omega) only [go_sem,seval,ao hi,he,fm]
  refine qD [0,1,2,3,4,5,6,7] ?_
  try simp (disch:=omega) only [go_sem,seval,ao hi,he,fm]
  refine az (ec (k+1) (by omega)) [] ?_
  refine⟨qC,ac 400 ?_⟩
  try simp (disch:=omega) only [go_sem,seval,fm,beq_self_eq_true]
  refine⟨qC,hN _ (i+1,k+1+1) (qI 0 1) (by (try dsimp only);exact⟨by omega,by omega⟩) (by (try dsimp only);omega) (af (by rfl) (by rfl) ?_)⟩
  try simp (disch:=omega) only [go_sem,seval]
  try omega
 have e:i=n:=by omega
 subst e
 refine ah (qI 0 1) (qC) _ (by simp only [go_sem];rfl) (by rfl) (by rfl) ?_
 simp (disch:=omega) only [go_sem,seval]
 try exact hx3
def PiecesD.cnt (x:PiecesD):Int:=2*(x.list.length:Int)
def dJ (x:PiecesD) (k:Int):PiecesD:={ x with list:=fj fm 2 (k) x.list.length }
theorem PiecesD.cnt_le (x:PiecesD) (l0:x.list.length≤1048576):0≤x.cnt∧x.cnt≤39845888:=by
 unfold PiecesD.cnt
 omega
theorem nX (x:PiecesD) (k0:Int) (l0:x.list.length≤1048576) (h0:0≤k0) (h1:k0≤549755813888):ae Tryz.prog 98 [.ag (x.cs 0),.sc (.int .i64 k0)] (x.hp true) (.sc (.int .i64 (k0+x.cnt))) ((dJ x k0).hp true):=by
 simp only [dJ]
 refine qE Tryz.func98 Tryz.ntmps98 Tryz.results98 fun E hE=>?_
 refine qK (nV x.list (k0) (by omega) (by omega) (by omega)) (qI 0 1) ?_
 refine ah (qI 0 1) (qC) _ (by simp only [go_sem];rfl) (by rfl) (by rfl) ?_
 simp (disch:=omega) only [go_sem,seval]
 try simp only [PiecesD.cnt]
 try omega
theorem nY (x:PiecesD) (k0:Int) (l0:x.list.length≤1048576) (h0:0≤k0) (h1:k0≤549755813888):ae Tryz.prog 103 [.ag ((dJ x k0).cs 0),.sc (.int .i64 k0)] ((dJ x k0).hp false) (.sc (.int .i64 (k0+x.cnt))) ((dJ x k0).hp false):=by
 simp only [dJ]
 refine qE Tryz.func103 Tryz.ntmps103 Tryz.results103 fun E hE=>?_
 refine qK (nW (k0) x.list.length (by omega) (by omega) (by omega)) (qI 0 1) ?_
 refine ah (qI 0 1) (qC) _ (by simp only [go_sem];rfl) (by rfl) (by rfl) ?_
 simp (disch:=omega) only [go_sem,seval]
 try simp only [PiecesD.cnt]
 try omega
def KnownD.cnt (x:KnownD):Int:=1*(x.keys.length:Int)+5*(x.tags.length:Int)
def d5 (x:KnownD) (k:Int):KnownD:={ x with keys:=fj iy 1 (k) x.keys.length,tags:=fj lH 5 (k+1*(x.keys.length:Int)) x.tags.length }
theorem KnownD.cnt_le (x:KnownD) (l0:x.keys.length≤1048576) (l1:x.tags.length≤1048576):0≤x.cnt∧x.cnt≤79691776:=by
 unfold KnownD.cnt
 omega
theorem pd (x:KnownD) (k0:Int) (l0:x.keys.length≤1048576) (l1:x.tags.length≤1048576) (h0:0≤k0) (h1:k0≤549755813888):ae Tryz.prog 44 [.ag (x.cs 0),.sc (.int .i64 k0)] (x.hp true) (.sc (.int .i64 (k0+x.cnt))) ((d5 x k0).hp true):=by
 simp only [d5]
 refine qE Tryz.func44 Tryz.ntmps44 Tryz.results44 fun E hE=>?_
 refine qK (bN x.keys (k0) (by omega) (by omega) (by omega)) (qI 0 1) ?_
 refine qK (rI x.tags (k0+1*(x.keys.length:Int)) (by omega) (by omega) (by omega)) (qI 1 1) ?_
 refine ah (qI 0 2) (qC) _ (by simp only [go_sem];rfl) (by rfl) (by rfl) ?_
 simp (disch:=omega) only [go_sem,seval]
 try simp only [KnownD.cnt]
 try omega
theorem pe (x:KnownD) (k0:Int) (l0:x.keys.length≤1048576) (l1:x.tags.length≤1048576) (h0:0≤k0) (h1:k0≤549755813888):ae Tryz.prog 47 [.ag ((d5 x k0).cs 0),.sc (.int .i64 k0)] ((d5 x k0).hp false) (.sc (.int .i64 (k0+x.cnt))) ((d5 x k0).hp false):=by
 simp only [d5]
 refine qE Tryz.func47 Tryz.ntmps47 Tryz.results47 fun E hE=>?_
 refine qK (ed (k0) x.keys.length (by omega) (by omega) (by omega)) (qI 0 1) ?_
 refine qK (rJ (k0+1*(x.keys.length:Int)) x.tags.length (by omega) (by omega) (by omega)) (qI 1 1) ?_
 refine ah (qI 0 2) (qC) _ (by simp only [go_sem];rfl) (by rfl) (by rfl) ?_
 simp (disch:=omega) only [go_sem,seval]
 try simp only [KnownD.cnt]
 try omega
def EndD.cnt (x:EndD):Int:=4*(x.own.length:Int)+4*(x.far.length:Int)+10*(x.subs.length:Int)+8*(x.halfs.length:Int)+PiecesD.cnt x.inp+1*(x.done.length:Int)+1*(x.over.length:Int)
def eW (x:EndD) (k:Int):EndD:={ x with own:=fj iC 4 (k) x.own.length,far:=fj iC 4 (k+4*(x.own.length:Int)) x.far.length,subs:=fj lI 10 (k+4*(x.own.length:Int)+4*(x.far.length:Int)) x.subs.length,halfs:=fj jb 8 (k+4*(x.own.length:Int)+4*(x.far.length:Int)+10*(x.subs.length:Int)) x.halfs.length,inp:=dJ x.inp (k+4*(x.own.length:Int)+4*(x.far.length:Int)+10*(x.subs.length:Int)+8*(x.halfs.length:Int)),done:=fj iy 1 (k+4*(x.own.length:Int)+4*(x.far.length:Int)+10*(x.subs.length:Int)+8*(x.halfs.length:Int)+PiecesD.cnt x.inp) x.done.length,over:=fj iy 1 (k+4*(x.own.length:Int)+4*(x.far.length:Int)+10*(x.subs.length:Int)+8*(x.halfs.length:Int)+PiecesD.cnt x.inp+1*(x.done.length:Int)) x.over.length }
theorem EndD.cnt_le (x:EndD) (l0:x.own.length≤1048576) (l1:x.far.length≤1048576) (l2:x.subs.length≤1048576) (l3:x.halfs.length≤1048576) (l4:x.inp.list.length≤1048576) (l5:x.done.length≤1048576) (l6:x.over.length≤1048576):0≤x.cnt∧x.cnt≤278921216:=by
 have:=PiecesD.cnt_le x.inp l4
 unfold EndD.cnt
 omega
theorem lJ (x:EndD) (k0:Int) (l0:x.own.length≤1048576) (l1:x.far.length≤1048576) (l2:x.subs.length≤1048576) (l3:x.halfs.length≤1048576) (l4:x.inp.list.length≤1048576) (l5:x.done.length≤1048576) (l6:x.over.length≤1048576) (h0:0≤k0) (h1:k0≤274877906944):ae Tryz.prog 42 [.ag (x.cs 0),.sc (.int .i64 k0)] (x.hp true) (.sc (.int .i64 (k0+x.cnt))) ((eW x k0).hp true):=by
 have c_inp:=PiecesD.cnt_le x.inp l4
 simp only [eW]
 refine qE Tryz.func42 Tryz.ntmps42 Tryz.results42 fun E hE=>?_
 refine qK (j1 x.own (k0) (by omega) (by omega) (by omega)) (qI 0 1) ?_
 refine qK (j1 x.far (k0+4*(x.own.length:Int)) (by omega) (by omega) (by omega)) (qI 1 1) ?_
 refine qK (rK x.subs (k0+4*(x.own.length:Int)+4*(x.far.length:Int)) (by omega) (by omega) (by omega)) (qI 2 1) ?_
 refine qK (o_ x.halfs (k0+4*(x.own.length:Int)+4*(x.far.length:Int)+10*(x.subs.length:Int)) (by omega) (by omega) (by omega)) (qI 3 1) ?_
 refine qK (nX x.inp (k0+4*(x.own.length:Int)+4*(x.far.length:Int)+10*(x.subs.length:Int)+8*(x.halfs.length:Int)) l4 (by omega) (by omega)) (qI 4 1) ?_
 refine qK (bN x.done (k0+4*(x.own.length:Int)+4*(x.far.length:Int)+10*(x.subs.length:Int)+8*(x.halfs.length:Int)+PiecesD.cnt x.inp) (by omega) (by omega) (by omega)) (qI 5 1) ?_
 refine qK (bN x.over (k0+4*(x.own.length:Int)+4*(x.far.length:Int)+10*(x.subs.length:Int)+8*(x.halfs.length:Int)+PiecesD.cnt x.inp+1*(x.done.length:Int)) (by omega) (by omega) (by omega)) (qI 6 1) ?_
 refine ah (qI 0 7) (qC) _ (by simp only [go_sem];rfl) (by rfl) (by rfl) ?_
 simp (disch:=omega) only [go_sem,seval]
 try simp only [EndD.cnt]
 try omega
theorem lK (x:EndD) (k0:Int) (l0:x.own.length≤1048576) (l1:x.far.length≤1048576) (l2:x.subs.length≤1048576) (l3:x.halfs.length≤1048576) (l4:x.inp.list.length≤1048576) (l5:x.done.length≤1048576) (l6:x.over.length≤1048576) (h0:0≤k0) (h1:k0≤274877906944):ae Tryz.prog 45 [.ag ((eW x k0).cs 0),.sc (.int .i64 k0)] ((eW x k0).hp false) (.sc (.int .i64 (k0+x.cnt))) ((eW x k0).hp false):=by
 have c_inp:=PiecesD.cnt_le x.inp l4
 simp only [eW]
 refine qE Tryz.func45 Tryz.ntmps45 Tryz.results45 fun E hE=>?_
 refine qK (j2 (k0) x.own.length (by omega) (by omega) (by omega)) (qI 0 1) ?_
 refine qK (j2 (k0+4*(x.own.length:Int)) x.far.length (by omega) (by omega) (by omega)) (qI 1 1) ?_
 refine qK (rL (k0+4*(x.own.length:Int)+4*(x.far.length:Int)) x.subs.length (by omega) (by omega) (by omega)) (qI 2 1) ?_
 refine qK (pc (k0+4*(x.own.length:Int)+4*(x.far.length:Int)+10*(x.subs.length:Int)) x.halfs.length (by omega) (by omega) (by omega)) (qI 3 1) ?_
 refine qK (nY x.inp (k0+4*(x.own.length:Int)+4*(x.far.length:Int)+10*(x.subs.length:Int)+8*(x.halfs.length:Int)) l4 (by omega) (by omega)) (qI 4 1) ?_
 refine qK (ed (k0+4*(x.own.length:Int)+4*(x.far.length:Int)+10*(x.subs.length:Int)+8*(x.halfs.length:Int)+PiecesD.cnt x.inp) x.done.length (by omega) (by omega) (by omega)) (qI 5 1) ?_
 refine qK (ed (k0+4*(x.own.length:Int)+4*(x.far.length:Int)+10*(x.subs.length:Int)+8*(x.halfs.length:Int)+PiecesD.cnt x.inp+1*(x.done.length:Int)) x.over.length (by omega) (by omega) (by omega)) (qI 6 1) ?_
 refine ah (qI 0 7) (qC) _ (by simp only [go_sem];rfl) (by rfl) (by rfl) ?_
 simp (disch:=omega) only [go_sem,seval]
 try simp only [EndD.cnt]
 try omega
def WorldD.cnt (x:WorldD):Int:=EndD.cnt x.a+EndD.cnt x.b+19*(x.bag.length:Int)+19*(x.past.length:Int)+KnownD.cnt x.known+1*(x.nums.length:Int)+1*(x.answersA.length:Int)+1*(x.answersB.length:Int)
def eO (x:WorldD) (k:Int):WorldD:={ x with a:=eW x.a (k),b:=eW x.b (k+EndD.cnt x.a),bag:=fj dT 19 (k+EndD.cnt x.a+EndD.cnt x.b) x.bag.length,past:=fj dT 19 (k+EndD.cnt x.a+EndD.cnt x.b+19*(x.bag.length:Int)) x.past.length,known:=d5 x.known (k+EndD.cnt x.a+EndD.cnt x.b+19*(x.bag.length:Int)+19*(x.past.length:Int)),nums:=fj iy 1 (k+EndD.cnt x.a+EndD.cnt x.b+19*(x.bag.length:Int)+19*(x.past.length:Int)+KnownD.cnt x.known) x.nums.length,answersA:=fj iy 1 (k+EndD.cnt x.a+EndD.cnt x.b+19*(x.bag.length:Int)+19*(x.past.length:Int)+KnownD.cnt x.known+1*(x.nums.length:Int)) x.answersA.length,answersB:=fj iy 1 (k+EndD.cnt x.a+EndD.cnt x.b+19*(x.bag.length:Int)+19*(x.past.length:Int)+KnownD.cnt x.known+1*(x.nums.length:Int)+1*(x.answersA.length:Int)) x.answersB.length }
theorem WorldD.cnt_le (x:WorldD) (l0:x.a.own.length≤1048576) (l1:x.a.far.length≤1048576) (l2:x.a.subs.length≤1048576) (l3:x.a.halfs.length≤1048576) (l4:x.a.inp.list.length≤1048576) (l5:x.a.done.length≤1048576) (l6:x.a.over.length≤1048576) (l7:x.b.own.length≤1048576) (l8:x.b.far.length≤1048576) (l9:x.b.subs.length≤1048576) (l10:x.b.halfs.length≤1048576) (l11:x.b.inp.list.length≤1048576) (l12:x.b.done.length≤1048576) (l13:x.b.over.length≤1048576) (l14:x.bag.length≤1048576) (l15:x.past.length≤1048576) (l16:x.known.keys.length≤1048576) (l17:x.known.tags.length≤1048576) (l18:x.nums.length≤1048576) (l19:x.answersA.length≤1048576) (l20:x.answersB.length≤1048576):0≤x.cnt∧x.cnt≤836763648:=by
 have:=EndD.cnt_le x.a l0 l1 l2 l3 l4 l5 l6
 have:=EndD.cnt_le x.b l7 l8 l9 l10 l11 l12 l13
 have:=KnownD.cnt_le x.known l16 l17
 unfold WorldD.cnt
 omega
theorem pf (x:WorldD) (k0:Int) (l0:x.a.own.length≤1048576) (l1:x.a.far.length≤1048576) (l2:x.a.subs.length≤1048576) (l3:x.a.halfs.length≤1048576) (l4:x.a.inp.list.length≤1048576) (l5:x.a.done.length≤1048576) (l6:x.a.over.length≤1048576) (l7:x.b.own.length≤1048576) (l8:x.b.far.length≤1048576) (l9:x.b.subs.length≤1048576) (l10:x.b.halfs.length≤1048576) (l11:x.b.inp.list.length≤1048576) (l12:x.b.done.length≤1048576) (l13:x.b.over.length≤1048576) (l14:x.bag.length≤1048576) (l15:x.past.length≤1048576) (l16:x.known.keys.length≤1048576) (l17:x.known.tags.length≤1048576) (l18:x.nums.length≤1048576) (l19:x.answersA.length≤1048576) (l20:x.answersB.length≤1048576) (h0:0≤k0) (h1:k0≤137438953472):ae Tryz.prog 19 [.ag (x.cs 0),.sc (.int .i64 k0)] (x.hp true) (.sc (.int .i64 (k0+x.cnt))) ((eO x k0).hp true):=by
 have c_a:=EndD.cnt_le x.a l0 l1 l2 l3 l4 l5 l6
 have c_b:=EndD.cnt_le x.b l7 l8 l9 l10 l11 l12 l13
 have c_known:=KnownD.cnt_le x.known l16 l17
 simp only [eO]
 refine qE Tryz.func19 Tryz.ntmps19 Tryz.results19 fun E hE=>?_
 refine qK (lJ x.a (k0) l0 l1 l2 l3 l4 l5 l6 (by omega) (by omega)) (qI 0 7) ?_
 refine qK (lJ x.b (k0+EndD.cnt x.a) l7 l8 l9 l10 l11 l12 l13 (by omega) (by omega)) (qI 7 7) ?_
 refine qK (iZ x.bag (k0+EndD.cnt x.a+EndD.cnt x.b) (by omega) (by omega) (by omega)) (qI 14 1) ?_
 refine qK (iZ x.past (k0+EndD.cnt x.a+EndD.cnt x.b+19*(x.bag.length:Int)) (by omega) (by omega) (by omega)) (qI 15 1) ?_
 refine qK (pd x.known (k0+EndD.cnt x.a+EndD.cnt x.b+19*(x.bag.length:Int)+19*(x.past.length:Int)) l16 l17 (by omega) (by omega)) (qI 16 2) ?_
 refine qK (bN x.nums (k0+EndD.cnt x.a+EndD.cnt x.b+19*(x.bag.length:Int)+19*(x.past.length:Int)+KnownD.cnt x.known) (by omega) (by omega) (by omega)) (qI 18 1) ?_
 refine qK (bN x.answersA (k0+EndD.cnt x.a+EndD.cnt x.b+19*(x.bag.length:Int)+19*(x.past.length:Int)+KnownD.cnt x.known+1*(x.nums.length:Int)) (by omega) (by omega) (by omega)) (qI 19 1) ?_
 refine qK (bN x.answersB (k0+EndD.cnt x.a+EndD.cnt x.b+19*(x.bag.length:Int)+19*(x.past.length:Int)+KnownD.cnt x.known+1*(x.nums.length:Int)+1*(x.answersA.length:Int)) (by omega) (by omega) (by omega)) (qI 20 1) ?_
 refine ah (qI 0 21) (qC) _ (by simp only [go_sem];rfl) (by rfl) (by rfl) ?_
 simp (disch:=omega) only [go_sem,seval]
 try simp only [WorldD.cnt]
 try omega
theorem j3 (x:WorldD) (k0:Int) (l0:x.a.own.length≤1048576) (l1:x.a.far.length≤1048576) (l2:x.a.subs.length≤1048576) (l3:x.a.halfs.length≤1048576) (l4:x.a.inp.list.length≤1048576) (l5:x.a.done.length≤1048576) (l6:x.a.over.length≤1048576) (l7:x.b.own.length≤1048576) (l8:x.b.far.length≤1048576) (l9:x.b.subs.length≤1048576) (l10:x.b.halfs.length≤1048576) (l11:x.b.inp.list.length≤1048576) (l12:x.b.done.length≤1048576) (l13:x.b.over.length≤1048576) (l14:x.bag.length≤1048576) (l15:x.past.length≤1048576) (l16:x.known.keys.length≤1048576) (l17:x.known.tags.length≤1048576) (l18:x.nums.length≤1048576) (l19:x.answersA.length≤1048576) (l20:x.answersB.length≤1048576) (h0:0≤k0) (h1:k0≤137438953472):ae Tryz.prog 21 [.ag ((eO x k0).cs 0),.sc (.int .i64 k0)] ((eO x k0).hp false) (.sc (.int .i64 (k0+x.cnt))) ((eO x k0).hp false):=by
 have c_a:=EndD.cnt_le x.a l0 l1 l2 l3 l4 l5 l6
 have c_b:=EndD.cnt_le x.b l7 l8 l9 l10 l11 l12 l13
 have c_known:=KnownD.cnt_le x.known l16 l17
 simp only [eO]
 refine qE Tryz.func21 Tryz.ntmps21 Tryz.results21 fun E hE=>?_
 refine qK (lK x.a (k0) l0 l1 l2 l3 l4 l5 l6 (by omega) (by omega)) (qI 0 7) ?_
 refine qK (lK x.b (k0+EndD.cnt x.a) l7 l8 l9 l10 l11 l12 l13 (by omega) (by omega)) (qI 7 7) ?_
 refine qK (i1 (k0+EndD.cnt x.a+EndD.cnt x.b) x.bag.length (by omega) (by omega) (by omega)) (qI 14 1) ?_
 refine qK (i1 (k0+EndD.cnt x.a+EndD.cnt x.b+19*(x.bag.length:Int)) x.past.length (by omega) (by omega) (by omega)) (qI 15 1) ?_
 refine qK (pe x.known (k0+EndD.cnt x.a+EndD.cnt x.b+19*(x.bag.length:Int)+19*(x.past.length:Int)) l16 l17 (by omega) (by omega)) (qI 16 2) ?_
 refine qK (ed (k0+EndD.cnt x.a+EndD.cnt x.b+19*(x.bag.length:Int)+19*(x.past.length:Int)+KnownD.cnt x.known) x.nums.length (by omega) (by omega) (by omega)) (qI 18 1) ?_
 refine qK (ed (k0+EndD.cnt x.a+EndD.cnt x.b+19*(x.bag.length:Int)+19*(x.past.length:Int)+KnownD.cnt x.known+1*(x.nums.length:Int)) x.answersA.length (by omega) (by omega) (by omega)) (qI 19 1) ?_
 refine qK (ed (k0+EndD.cnt x.a+EndD.cnt x.b+19*(x.bag.length:Int)+19*(x.past.length:Int)+KnownD.cnt x.known+1*(x.nums.length:Int)+1*(x.answersA.length:Int)) x.answersB.length (by omega) (by omega) (by omega)) (qI 20 1) ?_
 refine ah (qI 0 21) (qC) _ (by simp only [go_sem];rfl) (by rfl) (by rfl) ?_
 simp (disch:=omega) only [go_sem,seval]
 try simp only [WorldD.cnt]
 try omega
end
section
open Go.RowKit
attribute [go_sem] eO eW dJ d5
theorem WorldD.txt_le {x:WorldD} {m r:Int} (hm0:0≤m) (hm:m≤1048576) (h:aU m x.szL=r) (h0:0≤r):(∀ y∈x.a.inp.list,y.text.length≤1048576)∧(∀ y∈x.b.inp.list,y.text.length≤1048576):=by
 have k:=fc hm0 x.szL_nn (by rw [h];exact h0)
 refine⟨fun y hy=>?_,fun y hy=>?_⟩
 ·have:=k (y.text.length:Int) (by
   simp only [WorldD.szL,EndD.szL,PiecesD.szL,ax,List.mem_append,List.mem_cons,List.mem_map]
   refine .inl (.inr (.inr (.inr (.inr (.inr (.inl (.inr (.inl (.inr ⟨y,hy,rfl⟩)))))))))
   )
  omega
 have:=k (y.text.length:Int) (by
  simp only [WorldD.szL,EndD.szL,PiecesD.szL,ax,List.mem_append,List.mem_cons,List.mem_map]
  refine .inr (.inl (.inr (.inr (.inr (.inr (.inr (.inl (.inr (.inl (.inr ⟨y,hy,rfl⟩))))))))))
  )
 omega
theorem lL {w:WorldD} {e:EndD} (hw:SmallW w) (h:Small e):SmallW { w with a:=e }:=⟨h,hw.b,hw.bag,hw.past,hw.keys,hw.tags,hw.nums,hw.ansA,hw.ansB⟩
theorem lM {w:WorldD} {e:EndD} (hw:SmallW w) (h:Small e):SmallW { w with b:=e }:=⟨hw.a,h,hw.bag,hw.past,hw.keys,hw.tags,hw.nums,hw.ansA,hw.ansB⟩
theorem jL {side:Int} {w:WorldD} {l:List LetterD} (hw:SmallW w):SmallW (aq side w l):=by
 have h:=oS (side:=side) (l:=l) hw.rest
 have he:=aE (side:=side) (l:=l) (w:=w)
 exact⟨by rw [he.1];exact hw.a,by rw [he.2.1];exact hw.b,h.bag,h.past,h.keys,h.tags,h.nums,h.ansA,h.ansB⟩
theorem xU (w:WorldD) (x:LetterD) (hw:SmallW w):SmallW (gN w x):=by
 rcases kT x.to with h0|h0|h0
 ·rw [vW h0];exact hw
 ·rw [vX h0];exact jL (lL hw (gu hw.a))
 rw [vY h0];exact jL (lM hw (gu hw.b))
end
section
open Go.RowKit
def ic (x:ActD):List Int:=[(x.text.length:Int),(x.letter.text.length:Int)]
theorem rM (x:ActD):∀ n∈ic x,0≤n:=by
 intro n hn
 simp only [ic,List.mem_cons,List.not_mem_nil,or_false] at hn
 rcases hn with rfl|rfl<;>omega
theorem ET {x:ActD} {m r:Int} (hm0:0≤m) (hm:m≤1048576) (h:aU m (ic x)=r) (h0:0≤r):x.text.length≤1048576∧x.letter.text.length≤1048576:=by
 have k:=fc hm0 (rM x) (by rw [h];exact h0)
 have k1:=k (x.text.length:Int) (by simp [ic])
 have k2:=k (x.letter.text.length:Int) (by simp [ic])
 omega
theorem ActD.wf_texts {x:ActD} (h:x.wf):x.text.length≤9223372036854775807∧x.letter.text.length≤9223372036854775807:=by
 have h1:=h.2.2.2.2.1
 have h2:=h.2.2.2.2.2.2.2.2.2.2.2.2.2.2.2.2.2.2.2.2.2.2.2.2
 simp only [maxLen] at h1 h2
 omega
theorem zi (x:ActD) (m:Int) (hx:x.wf) (h0:0≤m) (h:m≤1048576):ae Tryz.prog 24 [.ag x.cs,.sc (.int .i64 m)] [] (.sc (.int .i64 (aU m (ic x)))) []:=by
 obtain⟨w1,w2⟩:=ActD.wf_texts hx
 obtain⟨R,hR⟩:∃ R,R=aU m (ic x):=⟨_,rfl⟩
 rw [←hR]
 simp only [aU,ic] at hR
 refine qE Tryz.func24 Tryz.ntmps24 Tryz.results24 fun E hE=>?_
 refine qB (fun h1=>?_) fun h1=>?_
 ·refine qJ [] ?_
  omega
 rw [if_neg (by omega)] at hR
 have hL:=lA x.letter (m - x.text.length) w2 (by omega) (by omega)
 rw [show aU (m - x.text.length) [(x.letter.text.length:Int)]=R from by rw [hR];rfl] at hL
 refine qX ?_
 refine qK (hL) [] ?_
 refine qB (fun h2=>?_) fun h2=>?_
 ·refine qJ [] ?_
  have:=bL (m:=m - x.text.length) (by omega) (a:=[(x.letter.text.length:Int)]) (by simp) (by rw [hR];rfl:aU (m - x.text.length) [(x.letter.text.length:Int)]=R)
  omega
 exact qF []
end
section
open Go.RowKit
theorem tw (e:EndD) (hl:e.subs.length≤1048576):ae Tryz.prog 334 [.ag (e.cs 0)] (e.hp false) (.sc (.sl 7 0 (eD e.subs).length)) (e.hp false++[some ⟨(eD e.subs).map iK,1,3,true,true⟩]):=by
 have hon:=jx e.subs
 obtain⟨q,hq⟩:∃ q,q=(gz e.subs).filter (zU e.subs):=⟨_,rfl⟩
 have hc:eD e.subs=if q.length=0 then gz e.subs else q:=by rw [eD,hq]
 have hqn:q.length≤1048576:=by rw [hq];exact Nat.le_trans (List.length_filter_le _ _) (by omega)
 generalize eD e.subs=cn at hc
 refine qE Tryz.func334 Tryz.ntmps334 Tryz.results334 fun E hE=>?_
 refine qK (nL e hl) (qI 0 7) ?_
 refine an 7 hE (fun s (x:Nat×List Nat)=>s.at (qU [0,1,6,3,12,15]) [(11,.sc (.int .i64 (x.1:Nat))),(3,.sc (.sl 9 0 x.2.length))] (e.hp false++[some ⟨[e.cs 0],25,45,true,false⟩,some ⟨(gz e.subs).map iK,1,3,true,true⟩,some ⟨x.2.map iK,1,3,true,true⟩])) (fun (x:Nat×List Nat)=>x.1≤(gz e.subs).length∧x.2.length≤x.1∧x.2++((gz e.subs).drop x.1).filter (zU e.subs)=q) (fun (x:Nat×List Nat)=>(gz e.subs).length - x.1) (0,[]) (qI 0 9++qO 1) (qC) (⟨Nat.zero_le _,Nat.zero_le _,by rw [hq];rfl⟩) (af (by rfl) (by rfl) ?_) fun x hx N hN=>?_
 ·exact qY
 obtain⟨k,acc⟩:=x
 obtain⟨hk1,hk2,hk3⟩:=hx
 dsimp only at hk1 hk2 hk3
 refine qR ?_
 refine qB (fun h=>?_) fun h=>?_
 ·have hlt:=nH h
  rw [iR h] at hk3
  refine qX ?_
  cases h2:e.subs[(gz e.subs)[k]].spare with
  |false=>
   have hp:zU e.subs (gz e.subs)[k]=true:=by rw [zU,ii hlt,h2];rfl
   rw [if_pos hp] at hk3
   try simp (disch:=omega) only [go_sem,seval,h2]
   refine⟨qC,hN _ (k+1,acc++[(gz e.subs)[k]]) (qI 0 9++qI 11 1) (by (try dsimp only);exact⟨by omega,by simp;omega,by simpa using hk3⟩) (by (try dsimp only);omega) (af (by rfl) (by rfl) ?_)⟩
   try simp (disch:=omega) only [go_sem,seval]
   try simp [iK]
  |true=>
   have hp:zU e.subs (gz e.subs)[k]=false:=by rw [zU,ii hlt,h2];rfl
   rw [if_neg (by simp [hp])] at hk3
   try simp (disch:=omega) only [go_sem,seval,h2]
   exact qN hN (k+1,acc) (qI 0 10) (by (try dsimp only);exact⟨by omega,by omega,hk3⟩)
 rw [List.drop_eq_nil_of_le (by omega),List.filter_nil,List.append_nil] at hk3
 subst hk3
 refine qX ?_
 refine qB (fun h2=>?_) fun h2=>?_
 ·rw [if_pos (by omega)] at hc
  subst hc
  exact qF (qI 0 7++qI 8 1)
 rw [if_neg (by omega)] at hc
 subst hc
 exact qF (qI 0 7++qI 9 1)
end
section
open Go.RowKit
def bk (e:EndD):Int:=if aj e=true∧(eD e.subs).length≠0 then (((eD e.subs).getD (e.pick.toNat % (eD e.subs).length) 0:Nat):Int) else -1
theorem lN (e:EndD):bk e= -1∨∃ m:Nat,m < e.subs.length∧bk e=(m:Int):=by
 rw [bk]
 split
 ·rename_i h
  right
  have hz:e.pick.toNat % (eD e.subs).length < (eD e.subs).length:=Nat.mod_lt _ (by omega)
  refine⟨_,?_,rfl⟩
  rw [List.getD_eq_getElem?_getD,List.getElem?_eq_getElem hz]
  exact EB (List.getElem_mem hz)
 exact .inl rfl
theorem iD {e:EndD} (h:aj e=true):0≤e.pick∧e.pick≤1000000000:=by
 simp only [aj,Bool.and_eq_true] at h
 have h1:=h.1.2
 simp only [List.all_cons,Bool.and_eq_true,iQ,decide_eq_true_eq] at h1
 exact h1.2.2.2.2.1
theorem rN {p:Int} {n:Nat} (hp:0≤p) (hn:0 < n):∃ z:Nat,p.tmod (n:Int)=(z:Int)∧z < n∧z=p.toNat % n:=by
 obtain⟨q,rfl⟩:=Int.eq_ofNat_of_zero_le hp
 refine⟨q % n,?_,Nat.mod_lt _ hn,by simp⟩
 rw [Int.tmod_eq_emod_of_nonneg (by omega)]
 omega
theorem md {e:EndD} {z:Nat} (h1:aj e=true) (hz:z < (eD e.subs).length) (hz2:z=e.pick.toNat % (eD e.subs).length):bk e=(((eD e.subs)[z]:Nat):Int):=by
 rw [bk,if_pos ⟨h1,by omega⟩,←hz2,List.getD_eq_getElem?_getD,List.getElem?_eq_getElem hz]
 rfl
def iE (n:Int):Int:=if 1000000000≤n then 0 else n+1
def z4 (e:EndD):Nat→List Int→List Int
 |0,out=>out
 |f+1,out=>z4 { e with pick:=iE e.pick } f (if 0≤bk e then out.set (bk e).toNat (IntKind.i64.wrap (out.getD (bk e).toNat 0+1)) else out)
def ZM (e:EndD) (n:Int):List Int:=if aj e && cr n 0 100 then z4 e n.toNat (List.replicate e.subs.length 0) else []
theorem vZ (e:EndD) (h0:e.own.length≤1048576) (h1:e.far.length≤1048576) (h2:e.subs.length≤1048576) (h3:e.halfs.length≤1048576) (h4:e.inp.list.length≤1048576) (h5:e.done.length≤1048576) (h6:e.over.length≤1048576):ae Tryz.prog 320 [.ag (e.cs 0)] (e.hp false) (.sc (.int .i64 (bk e))) (e.hp false):=by
 have hcl:=ug e.subs
 refine qE Tryz.func320 Tryz.ntmps320 Tryz.results320 fun E hE=>?_
 refine qK (tw e h2) (qI 0 7) ?_
 refine qK (bf e h0 h1 h2 h3 h4 h5 h6) (qI 0 7) ?_
 refine qB (fun g1=>?_) fun g1=>?_
 ·refine qB (fun g2=>?_) fun g2=>?_
  ·have hr:bk e= -1:=by rw [bk,if_neg (by omega)]
   rw [hr]
   exact qF (qI 0 7)
  have g2':(eD e.subs).length≠0:=by omega
  have hpk:=iD g1
  obtain⟨z,hz,hz1,hz2⟩:=rN hpk.1 (show 0 < (eD e.subs).length by omega)
  rw [md g1 hz1 hz2]
  try simp (disch:=omega) only [go_sem,seval,hz,ao hz1]
  exact qF (qI 0 7)
 have hr:bk e= -1:=by rw [bk,if_neg (by simp [g1])]
 rw [hr]
 exact qF (qI 0 7)
theorem v_ (e:EndD) (h0:e.own.length≤1048576) (h1:e.far.length≤1048576) (h2:e.subs.length≤1048576) (h3:e.halfs.length≤1048576) (h4:e.inp.list.length≤1048576) (h5:e.done.length≤1048576) (h6:e.over.length≤1048576):ae Tryz.prog 273 [.ag (e.cs 0)] (e.hp false) (.sc (.int .i64 (bk e))) (e.hp false):=by
 have hcl:=ug e.subs
 have hon:=jx e.subs
 obtain⟨q,hq⟩:∃ q,q=(gz e.subs).filter (zU e.subs):=⟨_,rfl⟩
 have hc:eD e.subs=if q.length=0 then gz e.subs else q:=by rw [eD,hq]
 have hqn:q.length≤1048576:=by rw [hq];exact Nat.le_trans (List.length_filter_le _ _) (by omega)
 refine qE Tryz.func273 Tryz.ntmps273 Tryz.results273 fun E hE=>?_
 refine qK (be e h0 h1 h2 h3 h4 h5 h6) (qI 0 7) ?_
 refine qB (fun g1=>?_) fun g1=>?_
 ·have hr:bk e= -1:=by rw [bk,if_neg (by simp [g1])]
  rw [hr]
  exact qF (qI 0 7)
 refine qK (nM e h2) (qI 0 7) ?_
 refine an 7 hE (fun s (x:Nat×List Nat)=>s.at (qU [0,1,6,29]) [(5,.sc (.int .i64 (x.1:Nat))),(4,.sc (.sl 9 0 x.2.length))] (e.hp false++[some ⟨[e.cs 0],25,45,true,false⟩,some ⟨(gz e.subs).map iK,1,3,true,true⟩,some ⟨x.2.map iK,1,3,true,true⟩])) (fun (x:Nat×List Nat)=>x.1≤(gz e.subs).length∧x.2.length≤x.1∧x.2++((gz e.subs).drop x.1).filter (zU e.subs)=q) (fun (x:Nat×List Nat)=>(gz e.subs).length - x.1) (0,[]) (qI 0 10) (qC) (⟨Nat.zero_le _,Nat.zero_le _,by rw [hq];rfl⟩) (af (by rfl) (by rfl) ?_) fun x hx N hN=>?_
 ·exact qY
 obtain⟨k,acc⟩:=x
 obtain⟨hk1,hk2,hk3⟩:=hx
 dsimp only at hk1 hk2 hk3
 refine qR ?_
 refine qB (fun h=>?_) fun h=>?_
 ·have hlt:=nH h
  rw [iR h] at hk3
  refine qD [0,1,2,3,4,5,6,7,8,9] ?_
  refine qX ?_
  refine qG ?_
  cases h8:e.subs[(gz e.subs)[k]].spare with
  |false=>
   have hp:zU e.subs (gz e.subs)[k]=true:=by rw [zU,ii hlt,h8];rfl
   rw [if_pos hp] at hk3
   try simp (disch:=omega) only [go_sem,seval,h8]
   refine⟨qC,hN _ (k+1,acc++[(gz e.subs)[k]]) (qI 0 9++qI 11 1) (by (try dsimp only);exact⟨by omega,by simp;omega,by simpa using hk3⟩) (by (try dsimp only);omega) (af (by rfl) (by rfl) ?_)⟩
   try simp (disch:=omega) only [go_sem,seval]
   try simp [iK]
  |true=>
   have hp:zU e.subs (gz e.subs)[k]=false:=by rw [zU,ii hlt,h8];rfl
   rw [if_neg (by simp [hp])] at hk3
   try simp (disch:=omega) only [go_sem,seval,h8]
   exact qN hN (k+1,acc) (qI 0 10) (by (try dsimp only);exact⟨by omega,by omega,hk3⟩)
 rw [List.drop_eq_nil_of_le (by omega),List.filter_nil,List.append_nil] at hk3
 subst hk3
 refine qX ?_
 refine qB (fun h8=>?_) fun h8=>?_
 ·rw [if_pos (by omega)] at hc
  refine qX ?_
  refine qB (fun h9=>?_) fun h9=>?_
  ·have hr:bk e= -1:=by rw [bk,if_neg (by rw [hc];omega)]
   rw [hr]
   exact qF (qI 0 7)
  rw [hc] at hcl
  have hl0:0 < (eD e.subs).length:=by rw [hc];omega
  have hpk:=iD g1
  obtain⟨z,hz,hz1,hz2⟩:=rN hpk.1 hl0
  have hn:=md g1 hz1 hz2
  simp only [hc] at hz hz1 hn
  rw [hn]
  try simp (disch:=omega) only [go_sem,seval,hz,ao hz1]
  exact qF (qI 0 7)
 rw [if_neg (by omega)] at hc
 refine qX ?_
 have hl0:0 < (eD e.subs).length:=by rw [hc];omega
 have hpk:=iD g1
 obtain⟨z,hz,hz1,hz2⟩:=rN hpk.1 hl0
 have hn:=md g1 hz1 hz2
 simp only [hc] at hz hz1 hn
 rw [hn]
 try simp (disch:=omega) only [go_sem,seval,hz,ao hz1]
 exact qF (qI 0 7)
theorem tx (n:Int) (hn:I64 n):ae Tryz.prog 322 [.sc (.int .i64 n)] [] (.sc (.int .i64 (iE n))) []:=by
 refine qE Tryz.func322 Tryz.ntmps322 Tryz.results322 fun E hE=>?_
 refine qB (fun h=>?_) fun h=>?_
 ·rw [iE,if_pos h]
  exact qF []
 rw [iE,if_neg h]
 exact qF []
end
section
open Go.RowKit
structure FineO (o:OutD):Prop where
 base:0≤o.base∧o.base≤1000000000
 room:1≤o.room∧o.room≤200
 len:(o.text.length:Int)≤o.room
 sent:o.base≤o.sent∧o.sent≤o.base+(o.text.length:Int)
theorem fq {o:OutD} (h:fb o=true):FineO o:=by
 simp only [fb,iQ,cr,Bool.and_eq_true,decide_eq_true_eq] at h
 obtain⟨⟨⟨h1,h2⟩,h3⟩,h4,h5⟩:=h
 rw [AO (by omega)] at h5
 exact⟨h1,h2,h3,h4,h5⟩
def jM (o:OutD) (t:List UInt8):Nat:=min t.length (o.room - (o.text.length:Int)).toNat
def i2 (o:OutD) (t:List UInt8):Bool:=fb o && decide (o.base+(o.text.length:Int)+(jM o t:Int)≤1000000000)
def fr (o:OutD) (t:List UInt8):OutD×Nat:=if i2 o t then ({ o with text:=o.text++t.take (jM o t) },jM o t) else (o,0)
theorem xV {o:OutD} {t:List UInt8} (h:i2 o t=true):fr o t=({ o with text:=o.text++t.take (jM o t) },jM o t):=if_pos h
theorem xW {o:OutD} {t:List UInt8} (h:i2 o t=false):fr o t=(o,0):=if_neg (by simp [h])
def cp (e:EndD) (t:List UInt8):EndD×Nat:=if aj e then ({ e with out:=(fr e.out t).1 },(fr e.out t).2) else (e,0)
theorem z5 {e:EndD} {t:List UInt8} (h:aj e=true):cp e t=({ e with out:=(fr e.out t).1 },(fr e.out t).2):=if_pos h
theorem z6 {e:EndD} {t:List UInt8} (h:aj e=false):cp e t=(e,0):=if_neg (by simp [h])
theorem wc (o:OutD) (t:List UInt8):jM o t≤t.length:=Nat.min_le_left _ _
theorem A6 (o:OutD) (t:List UInt8):(fr o t).2≤t.length:=by
 rw [fr];split
 ·exact wc o t
 exact Nat.zero_le _
theorem ne (e:EndD) (t:List UInt8):(cp e t).2≤t.length:=by
 rw [cp];split
 ·exact A6 _ _
 exact Nat.zero_le _
def xX (p:PiecesD) (many:Int):Nat:=min many.toNat p.ready.length
def pg (p:PiecesD) (many:Int):Bool:=aG p && decide (0≤many) && decide (p.read+(xX p many:Int)≤1000000000)
def cz (p:PiecesD) (many:Int):PiecesD×List UInt8:=if pg p many then (⟨p.read+(xX p many:Int),p.ready.drop (xX p many),p.list⟩,p.ready.take (xX p many)) else (p,[])
theorem YN {p:PiecesD} {m:Int} (h:pg p m=true):cz p m=(⟨p.read+(xX p m:Int),p.ready.drop (xX p m),p.list⟩,p.ready.take (xX p m)):=if_pos h
theorem YO {p:PiecesD} {m:Int} (h:pg p m=false):cz p m=(p,[]):=if_neg (by simp [h])
def bu (e:EndD) (many:Int):EndD×List UInt8:=if aj e then ({ e with inp:=(cz e.inp many).1 },(cz e.inp many).2) else (e,[])
theorem z7 {e:EndD} {m:Int} (h:aj e=true):bu e m=({ e with inp:=(cz e.inp m).1 },(cz e.inp m).2):=if_pos h
theorem z8 {e:EndD} {m:Int} (h:aj e=false):bu e m=(e,[]):=if_neg (by simp [h])
def f7 (o:OutD):Bool:=fb o && !decide (o.sent=o.base+(o.text.length:Int))
def cB (o:OutD):List UInt8:=(o.text.drop (o.sent - o.base).toNat).take 20
def cX (o:OutD):PieceD×Bool:=if f7 o then (⟨o.sent,cB o⟩,true) else (⟨0,[]⟩,false)
theorem A7 {o:OutD} (h:f7 o=true):cX o=(⟨o.sent,cB o⟩,true):=if_pos h
theorem Np {o:OutD} (h:f7 o=false):cX o=(⟨0,[]⟩,false):=if_neg (by simp [h])
def wd (o:OutD):OutD:=if f7 o then { o with sent:=o.sent+((cB o).length:Int) } else o
theorem ZJ {o:OutD} (h:f7 o=true):wd o={ o with sent:=o.sent+((cB o).length:Int) }:=if_pos h
def kD (e:EndD):Bool:=f7 e.out && decide (0≤bk e)
def z9 (s:SubD) (o:OutD):LetterD:=bc s.road { aw with kind:=11,sgn:=s.give,pos:=o.sent,text:=cB o }
def eX (e:EndD):EndD×List LetterD:=
 if kD e then ({ e with out:=wd e.out,pick:=iE e.pick },[z9 (bq e.subs (bk e).toNat) e.out]) else (e,[])
theorem EU {e:EndD} (h:kD e=false):eX e=(e,[]):=if_neg (by simp [h])
theorem EV {e:EndD} {n:Nat} (h:kD e=true) (hk:bk e=(n:Int)) (hn:n < e.subs.length):
  eX e=({ e with out:={ e.out with sent:=e.out.sent+((cB e.out).length:Int) },pick:=iE e.pick },[z9 e.subs[n] e.out]):=by
 have h1:f7 e.out=true:=by simp only [kD,Bool.and_eq_true] at h;exact h.1
 rw [eX,if_pos h,ZJ h1,hk,Int.toNat_natCast,bR hn]
def dU:Nat→EndD→EndD×List LetterD
 |0,e=>(e,[])
 |k+1,e=>((dU k (eX e).1).1,(eX e).2++(dU k (eX e).1).2)
def aS (e:EndD) (t:List UInt8):EndD×List LetterD:=dU 3 (cp e t).1
def we (e:EndD) (k:Int):Bool:=aj e && cr k 0 ((e.subs.length:Int) - 1) && decide ((bq e.subs k.toNat).state=3)
def br (e:EndD) (k:Int):EndD×List LetterD:=
 if we e k then ({ e with subs:=cS e.subs k.toNat 4 },[bc (bq e.subs k.toNat).road { aw with kind:=13,sgn:=(bq e.subs k.toNat).give }]) else (e,[])
def EW (e:EndD) (a:AddrD):Bool:=aj e && decide (bv e.own a.id < 0) && !lY e.done a.id
def aB (e:EndD) (a:AddrD):EndD×Bool:=
 if EW e a then ({ e with own:=(bn e.own { a with told:=false }).1 },(bn e.own { a with told:=false }).2) else (e,false)
def uB (e:EndD) (s:SubD) (a:AddrD):LetterD:=bc s.road { aw with kind:=8,tag:=⟨3,e.key,e.peer,a.id,a.addr⟩,sgn:=s.give,id:=a.id,addr:=a.addr,spare:=a.spare }
def EY (e:EndD):Bool:=aj e && decide (e.state=2) && !decide ((gz e.subs).length=0)
def cI (e:EndD):List LetterD:=if EY e then (e.own.filter fun a=> !a.told).map (uB e (bq e.subs ((gz e.subs).headD 0))) else []
def eZ (a:Int) (s:SubD):SubD:=if s.road.own=a then { s with state:=4 } else s
def uC (id:Int) (s:SubD):LetterD:=bc s.road { aw with kind:=10,sgn:=s.give,id:=id }
def A8 (e:EndD) (n:Int):Bool:=aj e && decide (e.state=2) && decide (0≤bv e.own n)
def gO (e:EndD) (n:Int):List SubD:=e.subs.map (eZ (oO e.own (bv e.own n).toNat).addr)
def bb (e:EndD) (n:Int):EndD×List LetterD:=
 if A8 e n then ({ e with own:=(bz e.own n).1,done:=iL e.done n,subs:=gO e n },(gz (gO e n)).map fun k=>uC n (bq (gO e n) k)) else (e,[])
def c8 (b:BucketD):BucketD:=if cP b then { b with cur:=min b.burst (b.cur+b.rate) } else b
def bM (l:List HalfD) (now:Int):List HalfD:=l.filter fun h=>decide (now < h.till)
def fu (o:OutD):OutD:=if fb o then { o with sent:=o.base } else o
def Fl (e:EndD):Bool:=aj e && decide (e.now < 1000000000) && e.subs.all fun s=>decide (s.tries < 1000000000)
def fv (e:EndD) (s:SubD):LetterD:=bc s.road { aw with kind:=4,token:=dB (3 - e.side),nonce:=s.mine,give:=s.take,spare:=s.spare }
def da (s:SubD):SubD:=if s.state=1∨s.state=2 then (if s.state=2∧9≤s.tries+1 then { s with tries:=s.tries+1,state:=4 } else { s with tries:=s.tries+1 }) else s
def eP (e:EndD) (s:SubD):List LetterD:=
 if s.state=1∨s.state=2 then (if s.state=2∧9≤s.tries+1 then [] else if (s.tries+1).tmod 3≠0 then [] else if s.state=1 then [fv e s] else [cx e s]) else []
def oU (e:EndD):EndD:={ e with now:=e.now+1,bucket:=c8 e.bucket,halfs:=bM e.halfs (e.now+1),out:=fu e.out }
def ea (e:EndD) (l:List LetterD):EndD×List LetterD:=((dU 3 e).1,l++cI e++(dU 3 e).2)
def dt (e:EndD):EndD×List LetterD:=
 if Fl e then (if e.state=2 then ea { oU e with subs:=e.subs.map da } (e.subs.flatMap (eP e)) else ea (oU e) []) else (e,[])
def eq (l:List SubD):List RoadD:=(l.filter fun s=>s.state != 4).map SubD.road
def gv (l:List AddrD) (n:Int):Bool:=l.any fun a=>a.addr == n
def bS (l:List AddrD) (n:Int):Bool:=l.foldl (fun b a=>if a.addr=n then a.spare else b) false
def A9 (e:EndD) (r:RoadD):Bool:=
 aj e && decide (e.state=2) && mG r && decide (bO e.subs r < 0) && gH e.own r.own && gv e.far r.far && decide (e.subs.length < 8) && cr e.draw 1 999999996
def fw (e:EndD) (r:RoadD) (spare:Bool):SubD:=⟨r,1,spare,e.draw,0,0,e.draw+2,0⟩
def gw (e:EndD) (r:RoadD) (spare:Bool):EndD×List LetterD:=
 if A9 e r then ({ e with subs:=e.subs++[fw e r spare],draw:=e.draw+4 },[fv e (fw e r spare)]) else (e,[])
def gY (far:List AddrD):EndD→List RoadD→EndD×List LetterD
 |e,[]=>(e,[])
 |e,r::l=>((gY far (gw e r (bS far r.far)).1 l).1,(gw e r (bS far r.far)).2++(gY far (gw e r (bS far r.far)).1 l).2)
def bs (e:EndD):EndD×List LetterD:=
 if aj e=true∧e.side=1 then gY e.far e (d8 (wanted e.policy e.own e.far) (eq e.subs)) else (e,[])
end
section
def fe (a:ActD):Bool:=cr a.kind 1 12 && cr a.side 1 2 && (iQ a.pos && iQ a.many) && decide (a.text.length≤120)
end
section
open Go.RowKit
def e8 (w:WorldD) (side:Int) (t:List UInt8):WorldD:=if side=1 then { w with wroteA:=w.wroteA++t } else { w with wroteB:=w.wroteB++t }
def cF (w:WorldD) (side:Int) (t:List UInt8):WorldD:=if side=1 then { w with readA:=w.readA++t } else { w with readB:=w.readB++t }
def dV (w:WorldD) (x:LetterD):Bool:=eb x && !decide (aZ x.to=0) && fU w.known x.tag && [x.key,x.nonce,x.give,x.sgn].all fun n=>decide (n < 1000) || lY w.nums n
def j5 (e:EndD) (a:ActD):EndD×List LetterD:=
 if a.kind=1 then aS e a.text else if a.kind=2 then ((bu e a.many).1,[]) else if a.kind=3 then dt e else if a.kind=4 then bs e
 else if a.kind=5 then ((aB e a.addr).1,[]) else if a.kind=6 then bb e a.pos else br e a.pos
def kE (w:WorldD) (a:ActD):WorldD:=
 if a.kind=1 then e8 w a.side (a.text.take (cp (cG w a.side) a.text).2) else if a.kind=2 then cF w a.side (bu (cG w a.side) a.many).2 else w
def cC (w:WorldD) (a:ActD):Bool:=decide (a.kind=5) && (!decide (aZ a.addr.addr=a.side) || !(aB (cG w a.side) a.addr).2)
def db (w:WorldD) (a:ActD):WorldD×Int:=
 if cC w a then (w,1) else (aq a.side (el (kE w a) a.side (j5 (cG w a.side) a).1) (j5 (cG w a.side) a).2,0)
def gU (l:List LetterD) (n:Int):List LetterD:=l.take n.toNat++l.drop (n.toNat+1)
def uD (l:List LetterD) (n:Nat):LetterD:=l.getD n default
def a_ (w:WorldD) (a:ActD):WorldD×Int:=
 if a.kind=8∨a.kind=9 then
  if (w.bag.length:Int)≤a.pos then (w,1)
  else if a.kind=8 then (gN { w with bag:=gU w.bag a.pos } (uD w.bag a.pos.toNat),0) else ({ w with bag:=gU w.bag a.pos },0)
 else if a.kind=10 then
  if (w.bag.length:Int)≤a.pos∨40≤w.bag.length then (w,1) else ({ w with bag:=w.bag++[uD w.bag a.pos.toNat] },0)
 else if a.kind=11 then
  if dV w a.letter=false then (w,2) else if 40≤w.bag.length then (w,1) else ({ w with bag:=w.bag++[a.letter] },0)
 else
  if (w.past.length:Int)≤a.pos∨aZ (uD w.past a.pos.toNat).to=0∨40≤w.bag.length then (w,1) else ({ w with bag:=w.bag++[uD w.past a.pos.toNat] },0)
def ff (w:WorldD) (a:ActD):WorldD×Int:=if fe a then (if a.kind≤7 then db w a else a_ w a) else (w,3)
end
section
open Go.RowKit
theorem EZ {o:OutD} {t:List UInt8} (h:FineO o):(if o.room - (o.text.length:Int) < (t.length:Int) then o.room - (o.text.length:Int) else (t.length:Int))=(jM o t:Int):=by
 have:=h.len
 rw [jM]
 split<;>omega
theorem Nq {o:OutD} {t:List UInt8} (h:FineO o) (h2:o.room - (o.text.length:Int) < (t.length:Int)):o.room - (o.text.length:Int)=(jM o t:Int):=by
 have:=h.len
 rw [jM];omega
theorem z_ {o:OutD} {t:List UInt8} (h:FineO o) (h2:¬ o.room - (o.text.length:Int) < (t.length:Int)):jM o t=t.length:=by
 have:=h.len
 rw [jM];omega
theorem nZ {o:OutD} {t:List UInt8} (h:FineO o):(jM o t:Int)≤o.room - (o.text.length:Int):=by
 have:=h.len
 rw [jM];omega
theorem xY (o:OutD) (t:List UInt8) (ht:t.length≤1048576):ae Tryz.prog 227 [.ag o.cs,.sc (.st t)] [] (.tu [.ag (fr o t).1.cs,.sc (.int .i64 ((fr o t).2:Nat))]) []:=by
 have hf:=xW (o:=o) (t:=t)
 have htt:=xV (o:=o) (t:=t)
 have hK:=iv o
 generalize fr o t=R at*
 refine qE Tryz.func227 Tryz.ntmps227 Tryz.results227 fun E hE=>?_
 refine qK (hK) [] ?_
 refine qB (fun b1=>?_) fun b1=>?_
 ·rw [hf (by simp [i2,b1])]
  refine qX ?_
  exact qF []
 have F:=fq b1
 have f1:=F.base
 have f2:=F.room
 have f3:=F.len
 have f4:=F.sent
 have hm:=EZ (t:=t) F
 have hr:=nZ (t:=t) F
 have hle:=wc o t
 have htl:(t.take (jM o t)).length=jM o t:=by rw [List.length_take];omega
 have htt2:(t.take t.length).length=t.length:=by simp
 try simp (disch:=omega) only [go_sem,seval,hm]
 refine qB (fun b2=>?_) fun b2=>?_
 ·rw [hf (by simp only [i2,b1,Bool.true_and,decide_eq_false_iff_not];omega)]
  refine qX ?_
  exact qF []
 rw [htt (by simp only [i2,b1,Bool.true_and,decide_eq_true_eq];omega)]
 refine qX ?_
 refine qD [0,1,2,3,4,5,6,7] ?_
 refine qG ?_
 exact qF []
theorem xZ (o:OutD) (t:List UInt8) (ht:t.length≤1048576):ae Tryz.prog 200 [.ag o.cs,.sc (.st t)] [] (.tu [.ag (fr o t).1.cs,.sc (.int .i64 ((fr o t).2:Nat))]) []:=by
 have hf:=xW (o:=o) (t:=t)
 have htt:=xV (o:=o) (t:=t)
 have hK:=iw o
 generalize fr o t=R at*
 refine qE Tryz.func200 Tryz.ntmps200 Tryz.results200 fun E hE=>?_
 refine qK (hK) [] ?_
 refine qB (fun b1=>?_) fun b1=>?_
 ·rw [hf (by simp [i2,b1])]
  refine qX ?_
  exact qF []
 have F:=fq b1
 have f1:=F.base
 have f2:=F.room
 have f3:=F.len
 have f4:=F.sent
 have hr:=nZ (t:=t) F
 have hle:=wc o t
 have htl:(t.take (jM o t)).length=jM o t:=by rw [List.length_take];omega
 have htt2:(t.take t.length).length=t.length:=by simp
 refine qX ?_
 refine qB (fun b3=>?_) fun b3=>?_
 ·have e:=z_ (t:=t) F (by omega)
  rw [e] at hr
  refine qB (fun b2=>?_) fun b2=>?_
  ·rw [hf (by simp only [i2,b1,Bool.true_and,decide_eq_false_iff_not,e];omega)]
   refine qX ?_
   exact qF []
  rw [htt (by simp only [i2,b1,Bool.true_and,decide_eq_true_eq,e];omega),e]
  refine qX ?_
  refine qD [0,1,2,3,4,5,6,7] ?_
  refine qG ?_
  exact qF []
 by_cases hlt:o.room - (o.text.length:Int) < (t.length:Int)
 ·have e:=Nq (t:=t) F hlt
  try simp (disch:=omega) only [go_sem,seval,e]
  refine qB (fun b2=>?_) fun b2=>?_
  ·rw [hf (by simp only [i2,b1,Bool.true_and,decide_eq_false_iff_not];omega)]
   refine qX ?_
   exact qF []
  rw [htt (by simp only [i2,b1,Bool.true_and,decide_eq_true_eq];omega)]
  refine qX ?_
  refine qD [0,1,2,3,4,5,6,7] ?_
  refine qG ?_
  exact qF []
 have e:=z_ (t:=t) F hlt
 have e2:o.room - (o.text.length:Int)=(jM o t:Int):=by omega
 try simp (disch:=omega) only [go_sem,seval,e2]
 refine qB (fun b2=>?_) fun b2=>?_
 ·rw [hf (by simp only [i2,b1,Bool.true_and,decide_eq_false_iff_not];omega)]
  refine qX ?_
  exact qF []
 rw [htt (by simp only [i2,b1,Bool.true_and,decide_eq_true_eq];omega)]
 refine qX ?_
 refine qD [0,1,2,3,4,5,6,7] ?_
 refine qG ?_
 exact qF []
theorem rO {o:OutD} (F:FineO o):(cB o).length≤20∧((cB o).length:Int)≤o.base+(o.text.length:Int) - o.sent:=by
 have:=F.sent
 simp only [cB,List.length_take,List.length_drop]
 omega
theorem kF (o:OutD) (ho:o.text.length≤1048576):ae Tryz.prog 319 [.ag o.cs] [] (.tu [.ag (cX o).1.cs,.sc (.bo (cX o).2)]) []:=by
 have hf:=Np (o:=o)
 have ht:=A7 (o:=o)
 have hK:=iv o
 generalize cX o=R at*
 refine qE Tryz.func319 Tryz.ntmps319 Tryz.results319 fun E hE=>?_
 refine qK (hK) [] ?_
 refine qB (fun b1=>?_) fun b1=>?_
 ·have F:=fq b1
  have f1:=F.base
  have f2:=F.room
  have f3:=F.len
  obtain⟨k,hk⟩:∃ k:Nat,o.sent - o.base=(k:Int):=⟨(o.sent - o.base).toNat,by have:=F.sent;omega⟩
  have f4:=F.sent
  refine qX ?_
  refine qB (fun b2=>?_) fun b2=>?_
  ·rw [hf (by simp [f7,b2])]
   refine qX ?_
   exact qF []
  have hnt:cB o=(o.text.drop k).take 20:=by rw [cB,hk,Int.toNat_natCast]
  rw [ht (by simp [f7,b1];omega),hnt]
  try simp (disch:=omega) only [go_sem,seval,hk]
  refine qD [0,1,2,3,4,5,6,7,8,9] ?_
  refine⟨qC,ac 400 ?_⟩
  by_cases h5:((o.text.drop k).length:Int) < 20
  ·have h6:(o.text.drop k).take 20=o.text.drop k:=List.take_of_length_le (by omega)
   rw [h6]
   simp only [List.length_drop] at h5
   try simp (disch:=omega) only [go_sem,seval,h5]
   refine ah [] (qC) _ (by simp only [go_sem];rfl) (by rfl) (by rfl) ?_
   simp (disch:=omega) only [go_sem,seval]
   try simp [h5,h6]
   try exact List.take_of_length_le (by simp)
  simp only [List.length_drop] at h5
  try simp (disch:=omega) only [go_sem,seval,h5]
  refine ah [] (qC) _ (by simp only [go_sem];rfl) (by rfl) (by rfl) ?_
  simp (disch:=omega) only [go_sem,seval]
  try simp [h5]
 rw [hf (by simp [f7,b1])]
 refine qX ?_
 exact qF []
theorem kG (o:OutD) (ho:o.text.length≤1048576):ae Tryz.prog 274 [.ag o.cs] [] (.tu [.ag (cX o).1.cs,.sc (.bo (cX o).2)]) []:=by
 have hf:=Np (o:=o)
 have ht:=A7 (o:=o)
 have hK:=iw o
 generalize cX o=R at*
 refine qE Tryz.func274 Tryz.ntmps274 Tryz.results274 fun E hE=>?_
 refine qK (hK) [] ?_
 refine qB (fun b1=>?_) fun b1=>?_
 ·have F:=fq b1
  have f1:=F.base
  have f2:=F.room
  have f3:=F.len
  obtain⟨k,hk⟩:∃ k:Nat,o.sent - o.base=(k:Int):=⟨(o.sent - o.base).toNat,by have:=F.sent;omega⟩
  have f4:=F.sent
  refine qX ?_
  refine qB (fun b2=>?_) fun b2=>?_
  ·rw [hf (by simp [f7,b2])]
   refine qX ?_
   exact qF []
  have hnt:cB o=(o.text.drop k).take 20:=by rw [cB,hk,Int.toNat_natCast]
  rw [ht (by simp [f7,b1];omega),hnt]
  try simp (disch:=omega) only [go_sem,seval,hk]
  refine qB (fun b3=>?_) fun b3=>?_
  ·refine qX ?_
   exact qF []
  have h6:(o.text.drop k).take 20=o.text.drop k:=List.take_of_length_le (by simp only [List.length_drop] at b3⊢;omega)
  rw [h6]
  refine qX ?_
  exact qF []
 rw [hf (by simp [f7,b1])]
 refine qX ?_
 exact qF []
theorem A_ (o:OutD):ae Tryz.prog 232 [.ag o.cs] [] (.ag (fu o).cs) []:=by
 have hK:=iv o
 obtain⟨R,hR⟩:∃ R,R=fu o:=⟨_,rfl⟩
 rw [←hR]
 refine qE Tryz.func232 Tryz.ntmps232 Tryz.results232 fun E hE=>?_
 refine qK (hK) [] ?_
 refine qB (fun b1=>?_) fun b1=>?_
 ·rw [fu,if_pos b1] at hR
  subst hR
  refine qX ?_
  exact qF []
 rw [fu,if_neg (by simp [b1])] at hR
 subst hR
 refine qX ?_
 exact qF []
theorem Ba (o:OutD):ae Tryz.prog 205 [.ag o.cs] [] (.ag (fu o).cs) []:=by
 have hK:=iw o
 obtain⟨R,hR⟩:∃ R,R=fu o:=⟨_,rfl⟩
 rw [←hR]
 refine qE Tryz.func205 Tryz.ntmps205 Tryz.results205 fun E hE=>?_
 refine qK (hK) [] ?_
 refine qB (fun b1=>?_) fun b1=>?_
 ·rw [fu,if_pos b1] at hR
  subst hR
  refine qX ?_
  exact qF []
 rw [fu,if_neg (by simp [b1])] at hR
 subst hR
 refine qX ?_
 exact qF []
theorem wg (o:OutD) (ho:o.text.length≤1048576) (h:f7 o=true):ae Tryz.prog 321 [.ag o.cs] [] (.ag (OutD.cs { o with sent:=o.sent+((cB o).length:Int) })) []:=by
 have hN:=kF o ho
 rw [A7 h] at hN
 have F:=fq (by simp only [f7,Bool.and_eq_true] at h;exact h.1:fb o=true)
 have hl:=rO F
 have f1:=F.base
 have f2:=F.room
 have f3:=F.len
 have f4:=F.sent
 refine qE Tryz.func321 Tryz.ntmps321 Tryz.results321 fun E hE=>?_
 refine qK (hN) [] ?_
 exact qF []
theorem wh (o:OutD) (ho:o.text.length≤1048576) (h:f7 o=true):ae Tryz.prog 275 [.ag o.cs] [] (.ag (OutD.cs { o with sent:=o.sent+((cB o).length:Int) })) []:=by
 have hN:=kG o ho
 rw [A7 h] at hN
 have F:=fq (by simp only [f7,Bool.and_eq_true] at h;exact h.1:fb o=true)
 have hl:=rO F
 have f1:=F.base
 have f2:=F.room
 have f3:=F.len
 have f4:=F.sent
 refine qE Tryz.func275 Tryz.ntmps275 Tryz.results275 fun E hE=>?_
 refine qK (hN) [] ?_
 exact qF []
end
section
open Go.RowKit
theorem Nr {p:PiecesD} {m:Int} (h:0≤m):(if (p.ready.length:Int) < m then (p.ready.length:Int) else m)=(xX p m:Int):=by
 rw [xX]
 split<;>omega
theorem E0 {p:PiecesD} {m:Int}:xX p m≤p.ready.length:=Nat.min_le_right _ _
theorem TY {p:PiecesD} {m:Int} (h:(p.ready.length:Int) < m):xX p m=p.ready.length:=by rw [xX];omega
theorem TZ {p:PiecesD} {m:Int} (h0:0≤m) (h:¬ (p.ready.length:Int) < m):m=(xX p m:Int):=by rw [xX];omega
theorem rP (p:PiecesD) (m:Int) (hs:SmallP p):ae Tryz.prog 229 [.ag (p.cs 0),.sc (.int .i64 m)] (p.hp false) (.tu [.ag ((cz p m).1.cs 1),.sc (.st (cz p m).2)]) (p.hp false++(cz p m).1.hp true):=by
 have hf:=YO (p:=p) (m:=m)
 have ht:=YN (p:=p) (m:=m)
 have hC:=ay p hs.list
 have hK:=bY p hs.list
 generalize cz p m=R at*
 refine ga Tryz.func229 Tryz.ntmps229 Tryz.results229 fun E hE=>?_
 refine qK (hC) (qI 0 1) ?_
 refine qK (hK) (qI 0 1) ?_
 refine qB (fun b1=>?_) fun b1=>?_
 ·have F:=fd b1 hs
  have f0:=F.r0
  have f1:=F.r1
  have f2:=F.ready
  refine qB (fun b2=>?_) fun b2=>?_
  ·rw [hf (by simp only [pg,Bool.and_eq_false_iff,decide_eq_false_iff_not];omega)]
   refine qX ?_
   exact cc (qI 0 1++qI 3 1)
  have hm:=Nr (p:=p) (m:=m) (by omega)
  have hle:=E0 (p:=p) (m:=m)
  have hok:pg p m=decide (p.read+(xX p m:Int)≤1000000000):=by rw [pg,b1,decide_eq_true (show 0≤m by omega)];rfl
  generalize xX p m=N at*
  try simp (disch:=omega) only [go_sem,seval,hm]
  refine qB (fun b3=>?_) fun b3=>?_
  ·rw [hf (by rw [hok];simp;omega)]
   refine qX ?_
   exact cc (qI 0 1++qI 3 1)
  rw [ht (by rw [hok];simp;omega)]
  refine qX ?_
  refine aI [(2,5),(4,5)] [(2,4)] [[0,1,3,2,4,5,6],[0,1,3,2,5,4,6],[0,1,3,5,2,4,6]] 1 hE (fun s=>s.at (qU [39,5]) [(5,.sc (.st (p.ready.take N)))] (s.hp.set 2 (some ⟨[[.int .i64 (p.read+(N:Int)),.st (p.ready.drop N),.sl 3 0 p.list.length]],3,42,true,false⟩))) (by kernel_rfl) (qC) (by kernel_rfl) ?_ (ac 400 ?_)
  rotate_left
  rotate_right
  simp only [aQ]
  refine⟨aa 400 ?_,aa 400 ?_,aa 400 ?_⟩
  ·simp (disch:=omega) only [go_sem]
   refine⟨qC,(qI 0 5),ab (by rfl) (by rfl) ?_⟩
   try simp (disch:=omega) only [go_sem,seval]
  ·simp (disch:=omega) only [go_sem]
   refine⟨qC,(qI 0 5),ab (by rfl) (by rfl) ?_⟩
   try simp (disch:=omega) only [go_sem,seval]
  ·simp (disch:=omega) only [go_sem]
   refine⟨qC,(qI 0 5),ab (by rfl) (by rfl) ?_⟩
   try simp (disch:=omega) only [go_sem,seval]
  refine qX ?_
  exact cc (qI 0 1++qI 3 1)
 rw [hf (by simp [pg,b1])]
 refine qX ?_
 exact cc (qI 0 1++qI 3 1)
theorem rQ (p:PiecesD) (m:Int) (hs:SmallP p):ae Tryz.prog 202 [.ag (p.cs 0),.sc (.int .i64 m)] (p.hp false) (.tu [.ag ((cz p m).1.cs 1),.sc (.st (cz p m).2)]) (p.hp false++(cz p m).1.hp true):=by
 have hf:=YO (p:=p) (m:=m)
 have ht:=YN (p:=p) (m:=m)
 have hC:=jD p hs.list
 have hK:=bZ p hs.list
 have hsl:=hs.list
 have hsr:=hs.ready
 generalize cz p m=R at*
 by_cases h0:0≤m
 ·obtain⟨N,hN⟩:∃ N,N=xX p m:=⟨_,rfl⟩
  have hle:N≤p.ready.length:=by rw [hN];exact E0
  have hok:aG p=true→pg p m=decide (p.read+(N:Int)≤1000000000):=fun b1=>by rw [pg,b1,decide_eq_true h0,hN];rfl
  rw [←hN] at ht
  have key:∀ M:Int,M=(N:Int)→(M=(p.ready.length:Int)∨M=m)→True:=fun _ _ _=>trivial
  refine ga Tryz.func202 Tryz.ntmps202 Tryz.results202 fun E hE=>?_
  refine qK (hC) (qI 0 1) ?_
  by_cases hlt:(p.ready.length:Int) < m
  ·have e:=TY hlt
   rw [←hN] at e
   subst e
   try simp (disch:=omega) only [go_sem,seval,hlt]
   refine qK (hK) (qI 0 1) ?_
   refine qB (fun b1=>?_) fun b1=>?_
   ·have F:=fd b1 hs
    have f0:=F.r0
    have f1:=F.r1
    have f2:=F.ready
    have hok':=hok b1
    refine qX ?_
    refine qB (fun b3=>?_) fun b3=>?_
    ·rw [hf (by rw [hok'];simp;omega)]
     refine qX ?_
     exact cc (qI 0 1++qI 3 1)
    rw [ht (by rw [hok'];simp;omega)]
    refine qX ?_
    refine aI [(2,5),(4,5)] [(2,4)] [[0,1,3,2,4,5,6],[0,1,3,2,5,4,6],[0,1,3,5,2,4,6]] 1 hE (fun s=>s.at (qU [42,5]) [(5,.sc (.st (p.ready.take p.ready.length)))] (s.hp.set 2 (some ⟨[[.int .i64 (p.read+(p.ready.length:Int)),.st (p.ready.drop p.ready.length),.sl 3 0 p.list.length]],3,42,true,false⟩))) (by kernel_rfl) (qC) (by kernel_rfl) ?_ (ac 400 ?_)
    rotate_left
    rotate_right
    simp only [aQ]
    refine⟨aa 400 ?_,aa 400 ?_,aa 400 ?_⟩
    ·simp (disch:=omega) only [go_sem]
     refine⟨qC,(qI 0 5),ab (by rfl) (by rfl) ?_⟩
     try simp (disch:=omega) only [go_sem,seval]
    ·simp (disch:=omega) only [go_sem]
     refine⟨qC,(qI 0 5),ab (by rfl) (by rfl) ?_⟩
     try simp (disch:=omega) only [go_sem,seval]
    ·simp (disch:=omega) only [go_sem]
     refine⟨qC,(qI 0 5),ab (by rfl) (by rfl) ?_⟩
     try simp (disch:=omega) only [go_sem,seval]
    refine qX ?_
    exact cc (qI 0 1++qI 3 1)
   rw [hf (by simp [pg,b1])]
   refine qX ?_
   exact cc (qI 0 1++qI 3 1)
  have e:=TZ h0 hlt
  rw [←hN] at e
  subst e
  refine qX ?_
  refine qK (hK) (qI 0 1) ?_
  refine qB (fun b1=>?_) fun b1=>?_
  ·have F:=fd b1 hs
   have f0:=F.r0
   have f1:=F.r1
   have f2:=F.ready
   have hok':=hok b1
   refine qX ?_
   refine qB (fun b3=>?_) fun b3=>?_
   ·rw [hf (by rw [hok'];simp;omega)]
    refine qX ?_
    exact cc (qI 0 1++qI 3 1)
   rw [ht (by rw [hok'];simp;omega)]
   refine qX ?_
   refine aI [(2,5),(4,5)] [(2,4)] [[0,1,3,2,4,5,6],[0,1,3,2,5,4,6],[0,1,3,5,2,4,6]] 1 hE (fun s=>s.at (qU [42,5]) [(5,.sc (.st (p.ready.take N)))] (s.hp.set 2 (some ⟨[[.int .i64 (p.read+(N:Int)),.st (p.ready.drop N),.sl 3 0 p.list.length]],3,42,true,false⟩))) (by kernel_rfl) (qC) (by kernel_rfl) ?_ (ac 400 ?_)
   rotate_left
   rotate_right
   simp only [aQ]
   refine⟨aa 400 ?_,aa 400 ?_,aa 400 ?_⟩
   ·simp (disch:=omega) only [go_sem]
    refine⟨qC,(qI 0 5),ab (by rfl) (by rfl) ?_⟩
    try simp (disch:=omega) only [go_sem,seval]
   ·simp (disch:=omega) only [go_sem]
    refine⟨qC,(qI 0 5),ab (by rfl) (by rfl) ?_⟩
    try simp (disch:=omega) only [go_sem,seval]
   ·simp (disch:=omega) only [go_sem]
    refine⟨qC,(qI 0 5),ab (by rfl) (by rfl) ?_⟩
    try simp (disch:=omega) only [go_sem,seval]
   refine qX ?_
   exact cc (qI 0 1++qI 3 1)
  rw [hf (by simp [pg,b1])]
  refine qX ?_
  exact cc (qI 0 1++qI 3 1)
 rw [hf (by simp [pg,h0])]
 refine ga Tryz.func202 Tryz.ntmps202 Tryz.results202 fun E hE=>?_
 refine qK (hC) (qI 0 1) ?_
 refine qK (hK) (qI 0 1) ?_
 refine qB (fun b1=>?_) fun b1=>?_
 ·refine qX ?_
  exact cc (qI 0 1++qI 3 1)
 refine qX ?_
 exact cc (qI 0 1++qI 3 1)
theorem me (e:EndD) (t:List UInt8) (hs:Small e) (ht:t.length≤1048576):ae Tryz.prog 145 [.ag (e.cs 0),.sc (.st t)] (e.hp false) (.tu [.ag ((cp e t).1.cs 7),.sc (.int .i64 ((cp e t).2:Nat))]) (e.hp false++(cp e t).1.hp true):=by
 have hC:=(qH (aK e))
 have hK:=(qH (bf e))
 have hA:=xY e.out t ht
 have hf:=z6 (e:=e) (t:=t)
 have htt:=z5 (e:=e) (t:=t)
 generalize cp e t=R at*
 refine qE Tryz.func145 Tryz.ntmps145 Tryz.results145 fun E hE=>?_
 refine qK (hC) (qI 0 7) ?_
 refine qK (hK) (qI 0 7) ?_
 refine qB (fun b1=>?_) fun b1=>?_
 ·rw [hf b1]
  refine qX ?_
  exact qF (qI 0 7++qI 9 7)
 rw [htt b1]
 refine qX ?_
 refine qK (hA) [] ?_
 exact qF (qI 0 7++qI 9 7)
theorem uE (e:EndD) (m:Int) (hs:Small e) (hsp:SmallP e.inp):ae Tryz.prog 147 [.ag (e.cs 0),.sc (.int .i64 m)] (e.hp false) (.tu [.ag ((bu e m).1.cs 7),.sc (.st (bu e m).2)]) (e.hp false++(bu e m).1.hp true):=by
 have hC:=(qH (aK e))
 have hK:=(qH (bf e))
 have hA:=rP e.inp m hsp
 have hf:=z8 (e:=e) (m:=m)
 have htt:=z7 (e:=e) (m:=m)
 generalize bu e m=R at*
 refine qE Tryz.func147 Tryz.ntmps147 Tryz.results147 fun E hE=>?_
 refine qK (hC) (qI 0 7) ?_
 refine qK (hK) (qI 0 7) ?_
 refine qB (fun b1=>?_) fun b1=>?_
 ·rw [hf b1]
  refine qX ?_
  exact qF (qI 0 7++qI 9 7)
 rw [htt b1]
 refine qX ?_
 refine qK (hA) (qI 4 1) ?_
 exact qF (qI 0 7++qI 9 4++qI 17 1++qI 14 2)
theorem mf (e:EndD) (t:List UInt8) (hs:Small e) (ht:t.length≤1048576):ae Tryz.prog 114 [.ag (e.cs 0),.sc (.st t)] (e.hp false) (.tu [.ag ((cp e t).1.cs 7),.sc (.int .i64 ((cp e t).2:Nat))]) (e.hp false++(cp e t).1.hp true):=by
 have hC:=(qH (aD e))
 have hK:=(qH (be e))
 have hA:=xZ e.out t ht
 have hf:=z6 (e:=e) (t:=t)
 have htt:=z5 (e:=e) (t:=t)
 generalize cp e t=R at*
 refine qE Tryz.func114 Tryz.ntmps114 Tryz.results114 fun E hE=>?_
 refine qK (hC) (qI 0 7) ?_
 refine qK (hK) (qI 0 7) ?_
 refine qB (fun b1=>?_) fun b1=>?_
 ·rw [hf b1]
  refine qX ?_
  exact qF (qI 0 7++qI 9 7)
 rw [htt b1]
 refine qX ?_
 refine qK (hA) [] ?_
 exact qF (qI 0 7++qI 9 7)
theorem uF (e:EndD) (m:Int) (hs:Small e) (hsp:SmallP e.inp):ae Tryz.prog 117 [.ag (e.cs 0),.sc (.int .i64 m)] (e.hp false) (.tu [.ag ((bu e m).1.cs 7),.sc (.st (bu e m).2)]) (e.hp false++(bu e m).1.hp true):=by
 have hC:=(qH (aD e))
 have hK:=(qH (be e))
 have hA:=rQ e.inp m hsp
 have hf:=z8 (e:=e) (m:=m)
 have htt:=z7 (e:=e) (m:=m)
 generalize bu e m=R at*
 refine qE Tryz.func117 Tryz.ntmps117 Tryz.results117 fun E hE=>?_
 refine qK (hC) (qI 0 7) ?_
 refine qK (hK) (qI 0 7) ?_
 refine qB (fun b1=>?_) fun b1=>?_
 ·rw [hf b1]
  refine qX ?_
  exact qF (qI 0 7++qI 9 7)
 rw [htt b1]
 refine qX ?_
 refine qK (hA) (qI 4 1) ?_
 exact qF (qI 0 7++qI 9 4++qI 17 1++qI 14 2)
end
end Go.Proofs.YtbgakfbnkkfbkaaGreat
