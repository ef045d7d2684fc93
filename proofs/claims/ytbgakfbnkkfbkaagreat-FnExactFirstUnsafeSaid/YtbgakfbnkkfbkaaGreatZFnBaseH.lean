/-
  Texts merged for this claim by shake.py: what its proof needs.
-/
import Derived.Tactics
import Derived.Below
import Derived.Laws.AppendOwn
import Derived.Laws.OwnMore
import Derived.Laws.Slices
import Derived.Laws.Small
import Derived.Laws.Strings
import Derived.KernelRfl
import Derived.Laws.MakeOwn
import Derived.Laws.BytesString
import Derived.Laws.BytesArg
import Derived.Laws.Build
import Derived.Laws.Concat
import Derived.Laws.StructEq
import Derived.Lib.ConvBytes
import Derived.Orders
import Derived.WalkKit
import Derived.ProofKit
import Derived.ShutString
import Derived.OpenShut
import Derived.ChangeOld
import Derived.Carry
import Derived.Test.YtbgakfbnkkfbkaaGreatChecked
import Derived.Laws.BitsLemmas
import Derived.JoinedOf
import Derived.Test.YtbgakfbnkkfbkaaGreatZFnBaseA
import Derived.Test.YtbgakfbnkkfbkaaGreatZFnBaseB
import Derived.Test.YtbgakfbnkkfbkaaGreatZFnBaseC
import Derived.Test.YtbgakfbnkkfbkaaGreatZFnBaseD
import Derived.Test.YtbgakfbnkkfbkaaGreatZFnBaseE
import Derived.Test.YtbgakfbnkkfbkaaGreatZFnBaseG
set_option maxHeartbeats 16000000
set_option maxRecDepth 100000
set_option linter.unusedVariables false
set_option linter.unusedSimpArgs false
namespace Go.Proofs.YtbgakfbnkkfbkaaGreat
section
open Go.RowKit
theorem mS (e:EndD) (x:LetterD) (hs:Small e):ae Tryz.prog 301 [.ag (e.cs 0),.ag x.cs] (e.hp false) (.tu [.ag ((bd e x).1.cs 7),.sc (.sl 14 0 (bd e x).2.length)])
  (e.hp false++((bd e x).1.hp true++[some ⟨(bd e x).2.map LetterD.cs,19,91,true,true⟩])):=by
 have hC:=(qH (aK e))
 have hK:=(qH (bf e))
 have hS:=eI e (ak x) (by have:=hs.subs;omega)
 have hL:=bt x
 have hbd:=eF e.subs (ak x)
 have hf:=YF (e:=e) (x:=x)
 have ht:=fun (n:Nat)=> @YG e x n
 generalize bd e x=R at*
 refine qE Tryz.func301 Tryz.ntmps301 Tryz.results301 fun E hE=>?_
 refine qK (hC) (qI 0 7) ?_
 refine qD [0,1,2,3,4] ?_
 refine az (di x) [] ?_
 refine az (hS) (qI 0 7) ?_
 refine qG ?_
 rcases hbd with hk|⟨hb0,hb1⟩
 ·rw [hf (NE hk),hk]
  refine qD [0,1,2,3,4,5,6,7,8,9,10,11,12,13,14,15,16,17,18,19,20,21,22,23,24,25,26,27,28,29,30,31,32,33,34,35,36,37,38,39,40,41,42,43] ?_
  refine az (hK) (qI 0 7) ?_
  refine qB (fun h1=>?_) fun h1=>?_
  ·refine az (hL) [] ?_
   refine qB (fun h2=>?_) fun h2=>?_
   ·refine qB (fun h3=>?_) fun h3=>?_
    ·refine qG ?_
     exact qF (qI 0 7++qI 10 7++qO 1)
    refine qG ?_
    exact qF (qI 0 7++qI 10 7++qO 1)
   refine qG ?_
   exact qF (qI 0 7++qI 10 7++qO 1)
  refine qG ?_
  exact qF (qI 0 7++qI 10 7++qO 1)
 obtain⟨n,hk⟩:=Int.eq_ofNat_of_zero_le hb0
 have hn:n < e.subs.length:=by omega
 have ha:=ND hk hn
 have hcmp:=TagD.cmp x.tag ⟨1,e.peer,e.key,x.nonce,e.subs[n].mine⟩
 simp only [TagD.cs,go_sem] at hcmp
 rw [hk]
 refine qD [0,1,2,3,4,5,6,7,8,9,10,11,12,13,14,15,16,17,18,19,20,21,22,23,24,25,26,27,28,29,30,31,32,33,34,35,36,37,38,39,40,41,42,43] ?_
 refine az (hK) (qI 0 7) ?_
 refine qB (fun h1=>?_) fun h1=>?_
 ·refine az (hL) [] ?_
  refine qB (fun h2=>?_) fun h2=>?_
  ·refine qB (fun h3=>?_) fun h3=>?_
   ·refine qB (fun h4=>?_) fun h4=>?_
    ·refine az (fY _ _ _ _) [] ?_
     refine⟨qC,ac 400 ?_⟩
     try simp (disch:=omega) only [go_sem,seval,hcmp]
     refine qB (fun h5=>?_) fun h5=>?_
     ·rw [hf (by rw [ha];simp [h1,h2,h3,h4,h5])]
      refine qX ?_
      exact qF (qI 0 7++qI 10 7++qO 1)
     rw [ht _ (by rw [ha];simp [h1,h2,h3,h4,h5]) hk hn]
     refine qX ?_
     refine aT [(6,7)] [(qU [0,9]),[0,1,2,3,4,5,7,6,8]] (by kernel_rfl) (qC) (by kernel_rfl) ?_
     simp only [aQ]
     refine⟨aa 400 ?_,aa 400 ?_⟩
     all_goals simp (disch:=omega) only [go_sem,seval]
     all_goals
      refine az (j0 e (mR e.subs[n] x)) (qI 0 7) ?_
      refine qG ?_
      refine ah (qI 0 7++qI 10 7++qI 18 1) (qC) _ (by simp only [go_sem];rfl) (by rfl) (by rfl) ?_
      simp (disch:=omega) only [go_sem,seval]
      try simp [List.map_set,SubD.cs,mR,cx,bc,LetterD.cs]
    rw [hf (by rw [ha];simp [h1,h2,h3,h4])]
    refine qG ?_
    exact qF (qI 0 7++qI 10 7++qO 1)
   rw [hf (by rw [ha];simp [h1,h2,h3])]
   refine qG ?_
   exact qF (qI 0 7++qI 10 7++qO 1)
  rw [hf (by rw [ha];simp [h1,h2])]
  refine qG ?_
  exact qF (qI 0 7++qI 10 7++qO 1)
 rw [hf (by rw [ha];simp [h1])]
 refine qG ?_
 exact qF (qI 0 7++qI 10 7++qO 1)
theorem mT (e:EndD) (x:LetterD) (hs:Small e):ae Tryz.prog 284 [.ag (e.cs 0),.ag x.cs] (e.hp false) (.tu [.ag ((bd e x).1.cs 7),.sc (.sl 14 0 (bd e x).2.length)])
  (e.hp false++((bd e x).1.hp true++[some ⟨(bd e x).2.map LetterD.cs,19,91,true,true⟩])):=by
 have hC:=(qH (aD e))
 have hK:=(qH (be e))
 have hS:=eJ e (ak x) (by have:=hs.subs;omega)
 have hL:=cL x
 have hbd:=eF e.subs (ak x)
 have hf:=YF (e:=e) (x:=x)
 have ht:=fun (n:Nat)=> @YG e x n
 generalize bd e x=R at*
 refine qE Tryz.func284 Tryz.ntmps284 Tryz.results284 fun E hE=>?_
 refine qK (hC) (qI 0 7) ?_
 refine qD [0,1,2,3,4] ?_
 refine az (ci x) [] ?_
 refine az (hS) (qI 0 7) ?_
 refine qG ?_
 rcases hbd with hk|⟨hb0,hb1⟩
 ·rw [hf (NE hk),hk]
  refine qD [0,1,2,3,4,5,6,7,8,9,10,11,12,13,14,15,16,17,18,19,20,21,22,23,24,25,26,27,28,29,30,31,32,33,34,35,36,37,38,39,40,41,42,43] ?_
  refine az (hK) (qI 0 7) ?_
  refine qB (fun h1=>?_) fun h1=>?_
  ·refine az (hL) [] ?_
   refine qB (fun h2=>?_) fun h2=>?_
   ·refine qB (fun h3=>?_) fun h3=>?_
    ·refine qG ?_
     exact qF (qI 0 7++qI 10 7++qI 18 1)
    refine qG ?_
    exact qF (qI 0 7++qI 10 7++qI 18 1)
   refine qG ?_
   exact qF (qI 0 7++qI 10 7++qI 18 1)
  refine qG ?_
  exact qF (qI 0 7++qI 10 7++qI 18 1)
 obtain⟨n,hk⟩:=Int.eq_ofNat_of_zero_le hb0
 have hn:n < e.subs.length:=by omega
 have ha:=ND hk hn
 have hcmp:=TagD.cmp x.tag ⟨1,e.peer,e.key,x.nonce,e.subs[n].mine⟩
 simp only [TagD.cs,go_sem] at hcmp
 rw [hk]
 refine qD [0,1,2,3,4,5,6,7,8,9,10,11,12,13,14,15,16,17,18,19,20,21,22,23,24,25,26,27,28,29,30,31,32,33,34,35,36,37,38,39,40,41,42,43] ?_
 refine az (hK) (qI 0 7) ?_
 refine qB (fun h1=>?_) fun h1=>?_
 ·refine az (hL) [] ?_
  refine qB (fun h2=>?_) fun h2=>?_
  ·refine qB (fun h3=>?_) fun h3=>?_
   ·refine qB (fun h4=>?_) fun h4=>?_
    ·refine az (fZ _ _ _ _) [] ?_
     refine⟨qC,ac 400 ?_⟩
     try simp (disch:=omega) only [go_sem,seval,hcmp]
     refine qB (fun h5=>?_) fun h5=>?_
     ·rw [hf (by rw [ha];simp [h1,h2,h3,h4,h5])]
      refine qX ?_
      exact qF (qI 0 7++qI 10 7++qI 18 1)
     rw [ht _ (by rw [ha];simp [h1,h2,h3,h4,h5]) hk hn]
     refine qX ?_
     refine aT [(0,10),(8,0),(9,0)] [(qU [1,9,0,1,10,3]),(qU [1,8,0,1,9,4]),(qU [1,7,0,1,8,5]),(qU [1,10,0,1,11,2])] (by kernel_rfl) (qC) (by kernel_rfl) ?_
     simp only [aQ]
     refine⟨aa 400 ?_,aa 400 ?_,aa 400 ?_,aa 400 ?_⟩
     all_goals simp (disch:=omega) only [go_sem,seval]
     all_goals
      refine az (kx { e with subs:=e.subs.set n (mR e.subs[n] x) } (mR e.subs[n] x)) (qI 10 7) ?_
      refine qG ?_
      refine ah (qI 0 7++qI 10 7++qI 20 1) (qC) _ (by simp only [go_sem];rfl) (by rfl) (by rfl) ?_
      simp (disch:=omega) only [go_sem,seval]
      try simp [List.map_set,SubD.cs,mR,cx,bc,LetterD.cs]
    rw [hf (by rw [ha];simp [h1,h2,h3,h4])]
    refine qG ?_
    exact qF (qI 0 7++qI 10 7++qI 18 1)
   rw [hf (by rw [ha];simp [h1,h2,h3])]
   refine qG ?_
   exact qF (qI 0 7++qI 10 7++qI 18 1)
  rw [hf (by rw [ha];simp [h1,h2])]
  refine qG ?_
  exact qF (qI 0 7++qI 10 7++qI 18 1)
 rw [hf (by rw [ha];simp [h1])]
 refine qG ?_
 exact qF (qI 0 7++qI 10 7++qI 18 1)
end
section
open Go.RowKit
theorem aaY {k:Nat} {g:PpS} {x:PieceD} (h:PpI k g) (hk:k≤20) (hx:x.text.length≤200∧0≤x.pos∧x.pos≤2000000000):PpI (k+1) (l_ g x):=by
 rw [l_];split
 ·exact xM h hx.1
 split
 ·cases hl:g.laid with
  |true=>simp only [if_true];exact vE h hl hx.1
  |false=>simp only [Bool.false_eq_true,if_false];exact vF h hk hl hx.1
 exact z0 h hx.1 hx.2.1 hx.2.2
theorem aaZ:∀ {l:List PieceD} {k:Nat} {g:PpS},PpI k g→k+l.length≤20→(∀ x∈l,x.text.length≤200∧0≤x.pos∧x.pos≤2000000000)→PpI (k+l.length) (nT g l)
 |[],k,g,h,_,_=>h
 |x::r,k,g,h,hk,hx=>by
  simp only [List.length_cons] at hk⊢
  have:=aaZ (l:=r) (aaY h (by omega) (hx x (by simp))) (by omega) (fun y hy=>hx y (by simp [hy]))
  rw [show k+(r.length+1)=k+1+r.length by omega]
  exact this
theorem aa5 {k:Nat} {g:PpS} (h:PpI k g) (hk:k≤20):(∀ z∈oP g,z.text.length≤5000)∧(oP g).length≤100:=by
 have ho:=h.own
 have ha:=h.acc
 rw [oP];split
 ·refine⟨h.texts,?_⟩
  split at ha<;>omega
 refine⟨fun z hz=>?_,?_⟩
 ·rcases List.mem_append.1 hz with hz|hz
  ·exact h.texts z hz
  simp only [List.mem_singleton] at hz;subst hz;omega
 simp only [List.length_append,List.length_singleton]
 split at ha<;>omega
theorem ZR {p:PiecesD} {n:Int} {t:List UInt8} (hs:SmallP p) (hp:aG p=true) (h0:0≤n) (h1:n≤2000000000) (ht:t.length≤200):SmallP (ux p n t):=by
 have F:=fd hp hs
 have hI:=aaZ (l:=p.list) (m7 h0 h1 ht) (by have:=F.list;omega) F.texts
 obtain⟨h2,h3⟩:=aa5 hI (by have:=F.list;omega)
 rw [ux]
 generalize oP (nT ⟨⟨n,t⟩,false,[]⟩ p.list)=l at h2 h3
 rw [m6];split
 ·have hr:=F.ready
  rw [ro]
  cases l with
  |nil=>split<;>exact⟨by simp,by simp [List.headD];first|omega|exact hs.ready,by simp⟩
  |cons y r=>
   have hy:=h2 y (by simp)
   simp only [List.length_cons] at h3
   split
   ·exact⟨by simp only [List.tail_cons];omega,by simp only [List.headD_cons,List.length_append];omega,fun z hz=>by have:=h2 z (List.mem_cons_of_mem _ hz);omega⟩
   exact⟨by simp only [List.length_cons];omega,by dsimp only;omega,fun z hz=>by have:=h2 z hz;omega⟩
 exact hs
theorem Z4 {p:PiecesD} {n:Int} {t:List UInt8} (hs:SmallP p):SmallP (ca p n t):=by
 rw [ca];split
 ·rename_i h
  simp only [tq,iQ,cr,Bool.and_eq_true,decide_eq_true_eq] at h
  obtain⟨⟨hp,hn⟩,ht⟩:=h
  split
  ·exact hs
  split
  ·have F:=fd hp hs
   have hr:=F.ready
   have:=F.next
   have:=F.r0
   have:=F.r1
   exact ZR hs hp (by omega) (by omega) (by rw [List.length_drop];omega)
  exact ZR hs hp (by omega) (by omega) (by omega)
 exact hs
structure GoodE (e:EndD):Prop where
 s:Small e
 p:SmallP e.inp
 o:e.out.text.length≤1048576
theorem aa0 (o:OutD) (n:Int):(mI o n).text.length≤o.text.length:=by
 rw [mI];split
 ·simp only [List.length_drop];omega
 exact Nat.le_refl _
theorem aaL {e:EndD} {x:LetterD} (h:GoodE e):GoodE (cZ e x).1:=by
 have io:(cZ e x).1.inp=e.inp∧(cZ e x).1.out=e.out∨SmallP (cZ e x).1.inp∧(cZ e x).1.out.text.length≤1048576:=by
  refine xT (Q:=fun r=>r.1.inp=e.inp∧r.1.out=e.out∨SmallP r.1.inp∧r.1.out.text.length≤1048576) (.inl ⟨rfl,rfl⟩) ?_ ?_ ?_ ?_ ?_ ?_ ?_ ?_ ?_ ?_ ?_ ?_
  ·unfold bX;repeat' split
   all_goals exact .inl ⟨rfl,rfl⟩
  ·unfold cf;repeat' split
   all_goals exact .inl ⟨rfl,rfl⟩
  ·unfold bT;repeat' split
   all_goals exact .inl ⟨rfl,rfl⟩
  ·unfold bd;repeat' split
   all_goals exact .inl ⟨rfl,rfl⟩
  ·unfold aL;repeat' split
   all_goals exact .inl ⟨rfl,rfl⟩
  ·unfold bh;dsimp only;split
   all_goals exact .inl ⟨rfl,rfl⟩
  ·unfold cj;repeat' split
   all_goals exact .inl ⟨rfl,rfl⟩
  ·unfold ck;dsimp only;split
   all_goals exact .inl ⟨rfl,rfl⟩
  ·unfold cm;dsimp only;split
   all_goals exact .inl ⟨rfl,rfl⟩
  ·unfold co;split
   ·exact .inr ⟨Z4 h.p,h.o⟩
   exact .inl ⟨rfl,rfl⟩
  ·unfold ce;dsimp only;split
   ·exact .inr ⟨h.p,Nat.le_trans (aa0 _ _) h.o⟩
   exact .inl ⟨rfl,rfl⟩
  unfold bK;dsimp only;split
  all_goals exact .inl ⟨rfl,rfl⟩
 rcases io with⟨h1,h2⟩|⟨h1,h2⟩
 ·exact⟨gu h.s,by rw [h1];exact h.p,by rw [h2];exact h.o⟩
 exact⟨gu h.s,h1,h2⟩
end
end Go.Proofs.YtbgakfbnkkfbkaaGreat
