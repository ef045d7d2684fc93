/- Lemmas of this claim. -/
import Derived.Test.YtdiiopjaebnmfaaGreatDoorZFnScriptsE
set_option maxHeartbeats 16000000
set_option maxRecDepth 100000
set_option linter.unusedVariables false
set_option linter.unusedSimpArgs false
namespace Go.Proofs.YtdiiopjaebnmfaaGreatDoor
open _root_.Go.Proofs.Tryz
open _root_.Int renaming eq_ofNat_of_zero_le->Ru,toNat_natCast->Rw
open _root_.Bool renaming and_eq_true->Rv
section
open Go.RowKit
theorem HR (o:OutD) (n:Int):aP 251 [.ag o.cs,.sc (.int .i64 n)] [] (.ag (came o n).cs) []:=by
 obtain⟨R,hR⟩:∃ R,R=came o n:=⟨_,rfl⟩
 rw [<-hR]
 refine ao func251 (by kernel_rfl) rfl fun E hE=>aa 400 ?_
 simp (disch:=omega) only [ntmps251,results251,go_sem,seval]
 refine ah (qC) (jJ o) [] qM zF (aa 400 ?_)
 simp (disch:=omega) only [go_sem,seval]
 split<;>rename_i h1<;>(try simp only [zR] at h1)<;>simp (disch:=omega) only [go_sem,seval,h1]<;>(try simp only [zQ] at h1)<;>try simp (disch:=omega) only [go_sem,seval]
 ·have h1':=h1
  simp only [outOk,eg,dJ,Rv,decide_eq_true_eq] at h1'
  obtain⟨⟨⟨⟨b0,b1⟩,r0,r1⟩,t0⟩,s0,s1⟩:=h1'
  rw [Ei zO] at s1
  split<;>rename_i h2<;>(try simp only [zR] at h2)<;>simp (disch:=omega) only [go_sem,seval,h2]<;>(try simp only [zQ] at h2)<;>try simp (disch:=omega) only [go_sem,seval]
  ·split<;>rename_i h3<;>(try simp only [zR] at h3)<;>simp (disch:=omega) only [go_sem,seval,h3]<;>(try simp only [zQ] at h3)<;>try simp (disch:=omega) only [go_sem,seval]
   ·rw [came,if_neg (by rw [Ei zO];omega)] at hR
    subst hR
    refine ai [] (qC) _ (by simp only [go_sem];rfl) zF zF ?_
    simp (disch:=omega) only [go_sem,seval]
   rw [came,if_pos ⟨h1,zO,by rw [Ei zO];omega⟩] at hR
   subst hR
   by_cases h4:o.sent < n
   ·try simp (disch:=omega) only [go_sem,seval,h4]
    refine ai [] (qC) _ (by simp only [go_sem];rfl) zF zF ?_
    simp (disch:=omega) only [go_sem,seval]
    all_goals (try simp only [h4,if_true,if_false,go_sem])
    all_goals (repeat' first|rfl|constructor)
    try simp
   try simp (disch:=omega) only [go_sem,seval,h4]
   refine ai [] (qC) _ (by simp only [go_sem];rfl) zF zF ?_
   simp (disch:=omega) only [go_sem,seval]
   all_goals (try simp only [h4,if_true,if_false,go_sem])
   all_goals (repeat' first|rfl|constructor)
   try simp
  rw [came,if_neg zO] at hR
  subst hR
  refine ai [] (qC) _ (by simp only [go_sem];rfl) zF zF ?_
  simp (disch:=omega) only [go_sem,seval]
 rw [came,if_neg (by simp [h1])] at hR
 subst hR
 refine ai [] (qC) _ (by simp only [go_sem];rfl) zF zF ?_
 simp (disch:=omega) only [go_sem,seval]
theorem vz (e:EndD) (x:LetterD) (hs:Small e):aP 203 [.ag (e.cs 0),.ag x.cs] (e.hp false) (.tu [.ag ((bW e x).1.cs 7),.sc (.sl 14 0 (bW e x).2.length)])
  (e.hp false++((bW e x).1.hp true++[some ⟨(bW e x).2.map LetterD.cs,19,36,true,true⟩])):=by
 have hC:=(qH (aB e))
 have hK:=(qH (bb e))
 have hS:=e_ e x (by have:=hs.subs;omega)
 have hbd:=fA e x
 have hL:=bw x
 have hf:=B9 (e:=e) (x:=x)
 have ht:=fun (n:Nat)=> @B_ e x n
 generalize bW e x=R at*
 refine qE func203 ntmps203 results203 fun E hE=>?_
 refine qK (hC) (qI 0 7) ?_
 refine qK (hS) (qI 0 7) ?_
 refine qK (hK) (qI 0 7) ?_
 refine qB (fun h1=>?_) fun h1=>?_
 ·refine qK (hL) [] ?_
  refine qB (fun h2=>?_) fun h2=>?_
  ·rcases hbd with hk|⟨hb0,hb1⟩
   ·rw [hf (cQ (by rintro⟨_,_,hh⟩;omega))]
    rw [hk]
    refine qX ?_
    exact qF (qI 0 7++qI 10 7++qO 1)
   obtain⟨n,hk⟩:=Ru hb0
   have hn:n < e.subs.length:=zO
   rw [ht _ (ms h1 h2 hk) hk,eO hn,hk]
   have e1:=uj e.subs n { e.subs[n] with state:=4 }
   simp only [SubD.cs] at e1
   try simp (disch:=omega) only [go_sem,seval,e1]
   refine qP (qI 0 7++qI 10 7++qO 1) ?_
   first|exact⟨⟩|simp
  rw [hf (cQ (by rintro⟨_,hh,_⟩;rw [h2] at hh;cases hh))]
  refine qX ?_
  exact qF (qI 0 7++qI 10 7++qO 1)
 rw [hf (cQ (by rintro⟨hh,_⟩;rw [h1] at hh;cases hh))]
 refine qX ?_
 exact qF (qI 0 7++qI 10 7++qO 1)
theorem xJ (e:EndD) (x:LetterD) (hs:Small e):aP 202 [.ag (e.cs 0),.ag x.cs] (e.hp false) (.tu [.ag ((cv e x).1.cs 7),.sc (.sl 14 0 (cv e x).2.length)])
  (e.hp false++((cv e x).1.hp true++[some ⟨(cv e x).2.map LetterD.cs,19,36,true,true⟩])):=by
 have hC:=(qH (aB e))
 have hK:=(qH (bb e))
 have hS:=e_ e x (by have:=hs.subs;omega)
 have hbd:=fA e x
 have hL:=bw x
 have hf:=Ex (e:=e) (x:=x)
 have ht:= @Ey e x
 generalize cv e x=R at*
 refine qE func202 ntmps202 results202 fun E hE=>?_
 refine qK (hC) (qI 0 7) ?_
 refine qK (hK) (qI 0 7) ?_
 refine qB (fun h1=>?_) fun h1=>?_
 ·refine qK (hL) [] ?_
  refine qB (fun h2=>?_) fun h2=>?_
  ·refine qK (hS) (qI 0 7) ?_
   rcases hbd with hk|⟨hb0,hb1⟩
   ·rw [hf (cQ (by rintro⟨_,_,hh⟩;omega))]
    rw [hk]
    refine qX ?_
    exact qF (qI 0 7++qI 10 7++qO 1)
   obtain⟨n,hk⟩:=Ru hb0
   rw [ht (by rw [ms h1 h2 hk];omega),hk]
   refine qX ?_
   refine qK (HR e.out x.pos) [] ?_
   exact qF (qI 0 7++qI 10 7++qO 1)
  rw [hf (cQ (by rintro⟨_,hh,_⟩;rw [h2] at hh;cases hh))]
  refine qX ?_
  exact qF (qI 0 7++qI 10 7++qO 1)
 rw [hf (cQ (by rintro⟨hh,_⟩;rw [h1] at hh;cases hh))]
 refine qX ?_
 exact qF (qI 0 7++qI 10 7++qO 1)
theorem rQ (e:EndD) (x:LetterD) (hs:Small e):aP 197 [.ag (e.cs 0),.ag x.cs] (e.hp false) (.tu [.ag ((bg e x).1.cs 7),.sc (.sl 14 0 (bg e x).2.length)])
  (e.hp false++((bg e x).1.hp true++[some ⟨(bg e x).2.map LetterD.cs,19,36,true,true⟩])):=by
 have hC:=(qH (aB e))
 have hK:=(qH (bb e))
 have hS:=eX e (roadOf x) (by have:=hs.subs;omega)
 have hL:=bw x
 have hbd:=jH e.subs (roadOf x)
 have hf:=NG (e:=e) (x:=x)
 have ht:=fun (n:Nat)=> @PW e x n
 generalize bg e x=R at*
 refine qE func197 ntmps197 results197 fun E hE=>?_
 refine qK (hC) (qI 0 7) ?_
 refine qD [0,1,2,3,4] ?_
 refine b_ (dN x) [] ?_
 refine b_ (hS) (qI 0 7) ?_
 refine qG ?_
 rcases hbd with hk|⟨hb0,hb1⟩
 ·rw [hf (Og hk),hk]
  refine qD [0,1,2,3,4,5,6,7,8,9,10,11,12,13,14,15,16,17,18,19,20,21,22,23,24,25,26,27,28,29] ?_
  refine b_ (hK) (qI 0 7) ?_
  refine qB (fun h1=>?_) fun h1=>?_
  ·refine b_ (hL) [] ?_
   refine qB (fun h2=>?_) fun h2=>?_
   ·refine qG ?_
    exact qF (qI 0 7++qI 10 7++qO 1)
   refine qG ?_
   exact qF (qI 0 7++qI 10 7++qO 1)
  refine qG ?_
  exact qF (qI 0 7++qI 10 7++qO 1)
 obtain⟨n,hk⟩:=Ru hb0
 have hn:n < e.subs.length:=zO
 have ha:=Oe hk hn
 rw [hk]
 refine qD [0,1,2,3,4,5,6,7,8,9,10,11,12,13,14,15,16,17,18,19,20,21,22,23,24,25,26,27,28,29] ?_
 refine b_ (hK) (qI 0 7) ?_
 refine qB (fun h1=>?_) fun h1=>?_
 ·refine b_ (hL) [] ?_
  refine qB (fun h2=>?_) fun h2=>?_
  ·refine qB (fun h3=>?_) fun h3=>?_
   ·refine qG ?_
    refine qB (fun h4=>?_) fun h4=>?_
    ·rw [ht _ (by rw [ha];simp [h1,h2,h3,h4]) hk,eO hn]
     have e1:=uj e.subs n { e.subs[n] with state:=3 }
     simp only [SubD.cs] at e1
     try simp (disch:=omega) only [go_sem,seval,e1]
     refine qP (qI 0 7++qI 10 7++qO 1) ?_
     first|exact⟨⟩|simp
    rw [hf (by rw [ha];simp [h1,h2,h3,h4])]
    refine qX ?_
    exact qF (qI 0 7++qI 10 7++qO 1)
   rw [hf (by rw [ha];simp [h1,h2,h3])]
   refine qG ?_
   exact qF (qI 0 7++qI 10 7++qO 1)
  rw [hf (by rw [ha];simp [h1,h2])]
  refine qG ?_
  exact qF (qI 0 7++qI 10 7++qO 1)
 rw [hf (by rw [ha];simp [h1])]
 refine qG ?_
 exact qF (qI 0 7++qI 10 7++qO 1)
theorem oc (e:EndD) (x:LetterD) (hs:Small e):aP 85 [.ag (e.cs 0),.ag x.cs] (e.hp false) (.tu [.ag ((bC e x).1.cs 7),.sc (.sl 14 0 (bC e x).2.length)])
  (e.hp false++((bC e x).1.hp true++[some ⟨(bC e x).2.map LetterD.cs,19,36,true,true⟩])):=by
 have hC:=(qH (aB e))
 have hK:=(qH (bb e))
 have hS:=eX e (roadOf x) (by have:=hs.subs;omega)
 have hL:=bw x
 have hbd:=jH e.subs (roadOf x)
 have hf:=Oh (e:=e) (x:=x)
 have ht:=fun (n:Nat)=> @Oi e x n
 generalize bC e x=R at*
 refine qE func85 ntmps85 results85 fun E hE=>?_
 refine qK (hC) (qI 0 7) ?_
 refine qK (dN x) [] ?_
 refine qK (hS) (qI 0 7) ?_
 rcases hbd with hk|⟨hb0,hb1⟩
 ·rw [hf (My hk),hk]
  refine qX ?_
  refine qK (hK) (qI 0 7) ?_
  refine qB (fun h1=>?_) fun h1=>?_
  ·refine qK (hL) [] ?_
   refine qB (fun h2=>?_) fun h2=>?_
   ·refine qB (fun h3=>?_) fun h3=>?_
    ·refine qX ?_
     exact qF (qI 0 7++qI 10 7++qO 1)
    refine qX ?_
    exact qF (qI 0 7++qI 10 7++qO 1)
   refine qX ?_
   exact qF (qI 0 7++qI 10 7++qO 1)
  refine qX ?_
  exact qF (qI 0 7++qI 10 7++qO 1)
 obtain⟨n,hk⟩:=Ru hb0
 have hn:n < e.subs.length:=zO
 have ha:=Mx hk hn
 rw [hk]
 refine qX ?_
 refine qK (hK) (qI 0 7) ?_
 refine qB (fun h1=>?_) fun h1=>?_
 ·refine qK (hL) [] ?_
  refine qB (fun h2=>?_) fun h2=>?_
  ·refine qB (fun h3=>?_) fun h3=>?_
   ·refine qB (fun h4=>?_) fun h4=>?_
    ·refine qK (aE _ _ _) [] ?_
     refine qB (fun h5=>?_) fun h5=>?_
     ·rw [hf (by rw [ha];simp [h1,h2,h3,h4,h5])]
      refine qX ?_
      exact qF (qI 0 7++qI 10 7++qO 1)
     rw [ht _ (by rw [ha];simp [h1,h2,h3,h4,h5]) hk hn]
     have e1:=uj e.subs n { e.subs[n] with state:=3 }
     have e2:=uj (e.subs.set n { e.subs[n] with state:=3 }) n { e.subs[n] with state:=3,give:=x.give }
     rw [List.set_set] at e2
     simp only [SubD.cs] at e1 e2
     refine qX ?_
     refine qK (Cg x.frm) [] ?_
     try simp (disch:=omega) only [go_sem,seval,e1,e2]
     refine aQ [(4,5)] [(qU [0,7]),[0,1,2,3,5,4,6]] (by kernel_rfl) (qC) (by kernel_rfl) ?_
     simp only [a_]
     refine⟨ab 400 ?_,ab 400 ?_⟩
     all_goals simp (disch:=omega) only [go_sem,seval]
     all_goals
      refine b_ (bc (roadOf x) { ac with kind:=3 }) [] ?_
      refine qG ?_
      refine ai (qI 0 7++qI 10 1++qI 19 1++qI 12 5++qI 20 1) (qC) _ (by simp only [go_sem];rfl) zF zF ?_
      simp (disch:=omega) only [go_sem,seval]
      try simp [gf,SubD.cs,LetterD.cs,roadOf,aq,ac]
      try omega
    rw [hf (by rw [ha];simp [h1,h2,h3,h4])]
    refine qX ?_
    exact qF (qI 0 7++qI 10 7++qO 1)
   rw [hf (by rw [ha];simp [h1,h2,h3])]
   refine qX ?_
   exact qF (qI 0 7++qI 10 7++qO 1)
  rw [hf (by rw [ha];simp [h1,h2])]
  refine qX ?_
  exact qF (qI 0 7++qI 10 7++qO 1)
 rw [hf (by rw [ha];simp [h1])]
 refine qX ?_
 exact qF (qI 0 7++qI 10 7++qO 1)
theorem Rd {e:EndD} {k:Int} {n:Nat} (h:t8 e k=true) (hk:k=(n:Int)) (hn:n < e.subs.length):
  cp e k=({ e with subs:=bB e.subs n 4 },[aq e.subs[n].road { ac with kind:=13,sgn:=e.subs[n].give }]):=by
 rw [cp,if_pos h,hk,Rw,bX hn]
theorem Re {e:EndD} {k:Int} (h:t8 e k=false):cp e k=(e,[]):=by rw [cp,if_neg (by simp [h])]
theorem P7 {e:EndD} {n:Nat} (hn:n < e.subs.length):t8 e (n:Int)=(ax e && decide (e.subs[n].state=3)):=by
 rw [t8,Rw,bX hn,show dJ (n:Int) 0 ((e.subs.length:Int) - 1)=true by simp only [dJ,Rv,decide_eq_true_eq];omega,Bool.and_true]
theorem OA {e:EndD} {k:Int} (h:dJ k 0 ((e.subs.length:Int) - 1)=false):t8 e k=false:=by simp [t8,h]
theorem y5 {e:EndD} (h:ax e=true):e.own.length<=6:=by
 simp only [ax,Rv] at h
 exact lm (by simp_all)
theorem Rf {e:EndD} {a:AddrD} (h:EV e a=false):aN e a=(e,false):=by rw [aN,if_neg (by simp [h])]
theorem Rg {e:EndD} {a:AddrD} (h:EV e a=true):aN e a=({ e with own:=(bi e.own { a with told:=false }).1 },(bi e.own { a with told:=false }).2):=by rw [aN,if_pos h]
theorem P8 {e:EndD} {a:AddrD} (h:(bi e.own { a with told:=false }).2=false):aN e a=(e,false):=by
 rw [aN];split
 ·have:bi e.own { a with told:=false }=(e.own,false):=by
   rw [bi] at h⊢;split
   ·rename_i hh;rw [if_pos hh] at h;cases h
   rfl
  rw [this]
 rfl
theorem wG (e:EndD) (k:Int) (hs:Small e):aP 99 [.ag (e.cs 0),.sc (.int .i64 k)] (e.hp false) (.tu [.ag ((cp e k).1.cs 7),.sc (.sl 14 0 (cp e k).2.length)])
  (e.hp false++((cp e k).1.hp true++[some ⟨(cp e k).2.map LetterD.cs,19,36,true,true⟩])):=by
 have hC:=(qH (aB e))
 have hK:=(qH (bb e))
 have hsub:=hs.subs
 have hf:=Re (e:=e) (k:=k)
 have ht:= @Rd e k
 have hI:=aE k 0 ((e.subs.length:Int) - 1)
 refine yu func99 ntmps99 results99 fun E hE=>?_
 refine qK (hC) (qI 0 7) ?_
 refine qK (hK) (qI 0 7) ?_
 refine qB (fun b1=>?_) fun b1=>?_
 ·refine qK (hI) [] ?_
  cases hin:dJ k 0 ((e.subs.length:Int) - 1) with
  |false=>
   rw [hf (OA hin)]
   refine qX ?_
   exact jh (qI 0 7++qI 9 7++qO 1)
  |true=>
   simp only [dJ,Rv,decide_eq_true_eq] at hin
   obtain⟨n,rfl⟩:=Ru hin.1
   have hn:n < e.subs.length:=zO
   have hg:=bt (enc:=SubD.cs) hn
   have hok:=P7 (e:=e) hn
   rw [b1,Bool.true_and] at hok
   try simp (disch:=omega) only [go_sem,seval,hg]
   refine qB (fun b2=>?_) fun b2=>?_
   ·rw [hf (by rw [hok];simp [b2])]
    refine qX ?_
    exact jh (qI 0 7++qI 9 7++qO 1)
   rw [ht (by rw [hok];simp [b2]) rfl hn]
   have hset:bB e.subs n 4=e.subs.set n { e.subs[n] with state:=4 }:=by rw [bB,bX hn]
   rw [hset]
   have hms:=J1 (f:=SubD.cs) (l:=e.subs) (k:=n) (v:={ e.subs[n] with state:=4 }) rfl
   simp only [SubD.cs] at hms
   try simp (disch:=omega) only [go_sem,seval,hg]
   refine bj [(15,16)] [] [(qU [0,18]),(qU [0,15,16,1,15,1,17,1])] 7 hE (fun s=>s.at (qU [36,16]) [(5,.sc (.sl 17 0 1))] ((s.hp.set 8 (some ⟨[[.int .i64 e.side,.int .i64 e.state,.int .i64 e.key,.int .i64 e.peer,.int .i64 e.policy.kind,.int .i64 e.policy.many,.sl 9 0 e.own.length,.sl 10 0 e.far.length,.sl 11 0 e.subs.length,.sl 12 0 e.halfs.length,.int .i64 e.bucket.rate,.int .i64 e.bucket.burst,.int .i64 e.bucket.cur,.st e.out.text,.int .i64 e.out.base,.int .i64 e.out.sent,.int .i64 e.out.room,.int .i64 e.inp.read,.st e.inp.ready,.sl 13 0 e.inp.list.length,.sl 14 0 e.done.length,.sl 15 0 e.over.length,.int .i64 e.draw,.int .i64 e.now,.int .i64 e.pick]],25,54,true,false⟩))++[some ⟨[(aq e.subs[n].road { ac with kind:=13,sgn:=e.subs[n].give }).cs],19,36,true,true⟩])) (by kernel_rfl) (qC) (by kernel_rfl) ?_ (aa 400 ?_)
   rotate_left
   rotate_right
   simp only [a_]
   refine⟨ab 400 ?_,ab 400 ?_⟩
   ·simp (disch:=omega) only [go_sem,hg]
    refine b_ (bc e.subs[n].road { ac with kind:=13,sgn:=e.subs[n].give }) [] ?_
    refine⟨qC,(qI 0 18),am zF zF ?_⟩
    try simp (disch:=omega) only [go_sem,seval]
    try rfl
   ·simp (disch:=omega) only [go_sem,hg]
    refine b_ (bc e.subs[n].road { ac with kind:=13,sgn:=e.subs[n].give }) [] ?_
    refine⟨qC,(qI 0 18),am zF zF ?_⟩
    try simp (disch:=omega) only [go_sem,seval]
    try rfl
   refine qX ?_
   refine aH (qI 0 7++qI 9 7++qI 17 1) (qC) _ (by simp only [go_sem];rfl) zF zF ?_
   simp (disch:=omega) only [go_sem,seval]
   exact⟨zP,hms⟩
 rw [hf (by simp [t8,b1])]
 refine qX ?_
 exact jh (qI 0 7++qI 9 7++qO 1)
theorem j8 (e:EndD) (a:AddrD) (hs:Small e):aP 96 [.ag (e.cs 0),.ag a.cs] (e.hp false) (.tu [.ag ((aN e a).1.cs 7),.sc (.bo (aN e a).2)]) (e.hp false++(aN e a).1.hp true):=by
 have hC:=(qH (aB e))
 have hK:=(qH (bb e))
 have hA:=eP e.own a.id (by have:=hs.own;omega)
 have hH:=fB e.done a.id (by have:=hs.done;omega)
 have hP:=fun h=>ln e.own { a with told:=false } h
 have hf:=Rf (e:=e) (a:=a)
 have ht:=Rg (e:=e) (a:=a)
 have ht2:=P8 (e:=e) (a:=a)
 have hok:EV e a=(ax e && decide (aT e.own a.id < 0) && !oH e.done a.id):=rfl
 generalize aN e a=R at*
 generalize bi e.own { a with told:=false }=pa at*
 obtain⟨own1,ok1⟩:=pa
 dsimp only at hP ht ht2
 refine yu func96 ntmps96 results96 fun E hE=>?_
 refine qK (hC) (qI 0 7) ?_
 refine qK (hK) (qI 0 7) ?_
 refine qB (fun b1=>?_) fun b1=>?_
 ·refine qK (hA) (qI 0 1) ?_
  refine qB (fun b2=>?_) fun b2=>?_
  ·refine qK (hH) (qI 5 1) ?_
   refine qB (fun b3=>?_) fun b3=>?_
   ·rw [hf (by rw [hok];simp [b3])]
    refine qX ?_
    exact jh (qI 0 7++qI 10 7)
   rw [ht (by rw [hok,b1,decide_eq_true zO,b3];rfl)]
   have hP:=hP (by have:=y5 b1;omega)
   refine qX ?_
   refine qK (hP) (qI 0 1) ?_
   exact jh (qI 0 7++qI 18 1++qI 11 6)
  rw [hf (by rw [hok,decide_eq_false zO];simp)]
  refine qX ?_
  exact jh (qI 0 7++qI 10 7)
 rw [hf (by simp [hok,b1])]
 refine qX ?_
 exact jh (qI 0 7++qI 10 7)
theorem nz {a:ActD} (h:bG a=true):0<=a.pos:=by
 simp only [bG,eg,dJ,Rv,decide_eq_true_eq] at h
 omega
end
end Go.Proofs.YtdiiopjaebnmfaaGreatDoor
