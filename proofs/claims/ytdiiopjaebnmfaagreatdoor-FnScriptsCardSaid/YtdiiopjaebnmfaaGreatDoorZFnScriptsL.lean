/- Lemmas of this claim. -/
import Derived.Test.YtdiiopjaebnmfaaGreatDoorZFnScriptsD
import Derived.Test.YtdiiopjaebnmfaaGreatDoorZFnScriptsE
set_option maxHeartbeats 16000000
set_option maxRecDepth 100000
set_option linter.unusedVariables false
set_option linter.unusedSimpArgs false
namespace Go.Proofs.YtdiiopjaebnmfaaGreatDoor
open _root_.Go.Proofs.Tryz
open _root_.List renaming length_set->Ru,length_append->Rv,length_singleton->Rx,length_take->Ry,length_drop->Rz
open _root_.Bool renaming and_eq_true->Rw
section
open Go.RowKit
theorem xR (e:EndD) (x:LetterD) (hs:Small e) (hsp:SmallP e.inp):aP 201 [.ag (e.cs 0),.ag x.cs] (e.hp false) (.tu [.ag ((cJ e x).1.cs 7),.sc (.sl 14 0 (cJ e x).2.length)])
  (e.hp false++((cJ e x).1.hp true++[some ⟨(cJ e x).2.map LetterD.cs,19,36,true,true⟩])):=by
 have hC:=(qH (aB e))
 have hK:=(qH (bb e))
 have hS:=e_ e x (by have:=hs.subs;omega)
 have hL:=bw x
 have hbs:=fA e x
 have hP:=xQ e.inp x.pos x.text hsp
 have hbd:=nk e x
 have hf:=vN (e:=e) (x:=x)
 have ht:=fun (n:Nat)=> @vO e x n
 have hok:=mz.eq_1 e x
 have hql:(vL e x).list.length<=1048576:=tp (by have:=hs.list;omega)
 rw [show putPiece e.inp x.pos x.text=vL e x from rfl] at hP
 generalize vL e x=Q at*
 generalize cJ e x=R at*
 refine qE func201 ntmps201 results201 fun E hE=>?_
 refine qK (hC) (qI 0 7) ?_
 refine qK (hS) (qI 0 7) ?_
 rcases hbs with hk|⟨hk0,hk1⟩
 ·rw [hk]
  refine qX ?_
  refine qK (hK) (qI 0 7) ?_
  refine qB (fun h1=>?_) fun h1=>?_
  ·refine qK (hL) [] ?_
   refine qB (fun h2=>?_) fun h2=>?_
   ·rw [hf (by rw [hok];have:=cQ (e:=e) (x:=x) (by rintro⟨_,_,hh⟩;omega);simp;omega)]
    refine qX ?_
    exact qF (qI 0 7++qI 10 7++qO 1)
   rw [hf (by rw [hok];have:=cQ (e:=e) (x:=x) (by rintro⟨_,hh,_⟩;rw [h2] at hh;cases hh);simp;omega)]
   refine qX ?_
   exact qF (qI 0 7++qI 10 7++qO 1)
  rw [hf (by rw [hok];have:=cQ (e:=e) (x:=x) (by rintro⟨hh,_⟩;rw [h1] at hh;cases hh);simp;omega)]
  refine qX ?_
  exact qF (qI 0 7++qI 10 7++qO 1)
 obtain⟨n,hk⟩:=Int.eq_ofNat_of_zero_le hk0
 have hn:n < e.subs.length:=zO
 rw [hk]
 refine qX ?_
 refine qK (hK) (qI 0 7) ?_
 refine qB (fun h1=>?_) fun h1=>?_
 ·refine qK (hL) [] ?_
  refine qB (fun h2=>?_) fun h2=>?_
  ·have hon:=ms h1 h2 hk
   have hq1:=h1
   refine qX ?_
   refine qK (hP) (qI 4 1) ?_
   refine qK (iO Q) (qI 18 1) ?_
   refine qB (fun h7=>?_) fun h7=>?_
   ·rw [hf (by rw [hok];simp;omega)]
    refine qX ?_
    exact qF (qI 0 7++qI 10 7++qO 1)
   rw [ht _ (by rw [hok];simp [hon];omega) hon hn]
   refine qX ?_
   refine aQ [(13,14)] [(qU [0,2,3,7,2,1,10,6]),[0,1,3,4,5,6,7,8,9,2,10,11,12,14,13,15]] (by kernel_rfl) (qC) (by kernel_rfl) ?_
   simp only [a_]
   refine⟨ab 400 ?_,ab 400 ?_⟩
   all_goals simp (disch:=omega) only [go_sem,seval]
   all_goals
    refine b_ (dN x) [] ?_
    refine b_ (iO Q) (qI 18 1) ?_
    refine b_ (bc (roadOf x) { ac with kind:=12,sgn:=e.subs[n].give,pos:=nextOf Q }) [] ?_
    refine qG ?_
    refine qP (qI 0 7++qI 10 4++qI 18 1++qI 15 2++qI 20 1) ?_
    first|exact⟨⟩|simp [vM,aq,LetterD.cs]
  rw [hf (by rw [hok];have:=cQ (e:=e) (x:=x) (by rintro⟨_,hh,_⟩;rw [h2] at hh;cases hh);simp;omega)]
  refine qX ?_
  exact qF (qI 0 7++qI 10 7++qO 1)
 rw [hf (by rw [hok];have:=cQ (e:=e) (x:=x) (by rintro⟨hh,_⟩;rw [h1] at hh;cases hh);simp;omega)]
 refine qX ?_
 exact qF (qI 0 7++qI 10 7++qO 1)
theorem ET {l:List HalfD} {h:HalfD} (hl:l.length<=1048576):(bF l h).1.length<=1048576:=by
 rw [bF];split
 ·rename_i hh;have:=eC hh;dsimp only;omega
 exact hl
theorem vY {l:List AddrD} {a:AddrD} (hl:l.length<=1048576):(bi l a).1.length<=1048576:=by
 rw [bi];split
 ·rename_i hh;have:=lm hh;dsimp only;omega
 exact hl
theorem ts {l:List AddrD} {n:Int} (hl:l.length<=1048576):(bN l n).1.length<=1048576:=by
 rw [bN];split
 ·exact hl
 simp only [Rv,Ry,Rz];omega
theorem Cw {l:List HalfD} {r:RoadD} (hl:l.length<=1048576):(bV l r).length<=1048576:=by
 rw [bV];split
 ·exact hl
 simp only [Rv,Ry,Rz];omega
theorem sf {e:EndD} (h:ax e=true):e.done.length<=256/\e.over.length<=256:=by
 simp only [ax,Rw] at h
 exact⟨by have:=vG (l:=e.done) (m:=e.own) (by simp_all);omega,by have:=vG (l:=e.over) (m:=e.far) (by simp_all);omega⟩
theorem MG {e:EndD} {x:LetterD} (h:0<=iX e x):ax e=true:=by
 rcases nk e x with h1|⟨n,_,_,_,h2,_⟩
 ·omega
 exact h2
theorem t6 {e:EndD} {x:LetterD} (hs:Small e):Small (aV e x).1:=by
 rw [aV];split
 ·rename_i h
  simp only [gO,Rw,decide_eq_true_eq] at h
  exact⟨hs.own,by simp [gf],by simp only [Rv,Rx];omega,hs.halfs,hs.list,hs.done,hs.over⟩
 exact hs
theorem vZ {e:EndD} {x:LetterD} (hs:Small e):Small (bC e x).1:=by
 rw [bC];split
 ·exact⟨hs.own,by simp [gf],by simpa only [Ru] using hs.subs,hs.halfs,hs.list,hs.done,hs.over⟩
 exact hs
theorem v_ {e:EndD} {x:LetterD} (hs:Small e):Small (cj e x).1:=by
 rw [cj];split
 ·split
  ·exact⟨hs.own,hs.far,hs.subs,by simpa only [Ru] using hs.halfs,hs.list,hs.done,hs.over⟩
  exact⟨hs.own,hs.far,hs.subs,ET hs.halfs,hs.list,hs.done,hs.over⟩
 exact hs
theorem oN {e:EndD} {x:LetterD} (hs:Small e):Small (aW e x).1:=by
 rw [aW];split
 ·exact⟨hs.own,hs.far,by simpa only [Ru] using hs.subs,hs.halfs,hs.list,hs.done,hs.over⟩
 exact hs
theorem oO {e:EndD} {x:LetterD} (hs:Small e):Small (aF e x).1:=by
 rw [aF];split
 ·split
  ·rename_i h
   simp only [tZ,Rw,decide_eq_true_eq] at h
   refine⟨hs.own,hs.far,?_,Cw hs.halfs,hs.list,hs.done,hs.over⟩
   split<;>simp only [bB,Rv,Ru,Rx]<;>omega
  split<;>exact hs
 exact hs
theorem qh {e:EndD} {x:LetterD} (hs:Small e):Small (bg e x).1:=by
 rw [bg];dsimp only;split
 ·exact⟨hs.own,hs.far,by simpa only [bB,Ru] using hs.subs,hs.halfs,hs.list,hs.done,hs.over⟩
 exact hs
theorem wc {e:EndD} {x:LetterD} (hs:Small e):Small (cF e x).1:=by
 rw [cF];split
 ·exact⟨hs.own,vY hs.far,hs.subs,hs.halfs,hs.list,hs.done,hs.over⟩
 exact hs
theorem we {e:EndD} {x:LetterD} (hs:Small e):Small (cG e x).1:=by
 rw [cG];dsimp only;split
 ·exact⟨by simpa only [Ru] using hs.own,hs.far,hs.subs,hs.halfs,hs.list,hs.done,hs.over⟩
 exact hs
theorem wg {e:EndD} {x:LetterD} (hs:Small e):Small (cH e x).1:=by
 rw [cH];dsimp only;split
 ·rename_i h
  simp only [rY,Rw,decide_eq_true_eq] at h
  have:=(sf (MG h.1)).2
  exact⟨hs.own,ts hs.far,by simpa only [List.length_map] using hs.subs,hs.halfs,hs.list,hs.done,by have:=vB e.over x.id;dsimp only;omega⟩
 exact hs
theorem wh {e:EndD} {x:LetterD} (hs:Small e):Small (cJ e x).1:=by
 rw [cJ];split
 ·exact⟨hs.own,hs.far,hs.subs,hs.halfs,tp hs.list,hs.done,hs.over⟩
 exact hs
theorem wj {e:EndD} {x:LetterD} (hs:Small e):Small (cv e x).1:=by
 rw [cv];dsimp only;split
 ·exact⟨hs.own,hs.far,hs.subs,hs.halfs,hs.list,hs.done,hs.over⟩
 exact hs
theorem t7 {e:EndD} {x:LetterD} (hs:Small e):Small (bW e x).1:=by
 rw [bW];dsimp only;split
 ·exact⟨hs.own,hs.far,by simpa only [bB,Ru] using hs.subs,hs.halfs,hs.list,hs.done,hs.over⟩
 exact hs
theorem mF {e:EndD} {x:LetterD} {Q:EndD×List LetterD->Prop} (h0:Q (e,[])) (h1:Q (aV e x)) (h2:Q (bC e x)) (h4:Q (cj e x)) (h5:Q (aW e x)) (h6:Q (aF e x)) (h7:Q (bg e x)) (h8:Q (cF e x)) (h9:Q (cG e x)) (h10:Q (cH e x)) (h11:Q (cJ e x)) (h12:Q (cv e x)) (h13:Q (bW e x)):Q (bO e x):=by
 by_cases hc:dD e x=true
 ·by_cases k1:x.kind=1
  ·rw [r_ hc k1];exact h1
  by_cases k2:x.kind=2
  ·rw [se hc k2];exact h2
  by_cases k4:x.kind=4
  ·rw [vP hc k4];exact h4
  by_cases k5:x.kind=5
  ·rw [vQ hc k5];exact h5
  by_cases k6:x.kind=6
  ·rw [vR hc k6];exact h6
  by_cases k7:x.kind=7
  ·rw [vS hc k7];exact h7
  by_cases k8:x.kind=8
  ·rw [vT hc k8];exact h8
  by_cases k9:x.kind=9
  ·rw [vU hc k9];exact h9
  by_cases k10:x.kind=10
  ·rw [nq hc k10];exact h10
  by_cases k11:x.kind=11
  ·rw [qd hc k11];exact h11
  by_cases k12:x.kind=12
  ·rw [qe hc k12];exact h12
  by_cases k13:x.kind=13
  ·rw [nr hc k13];exact h13
  rw [Ai (by intro k hk;omega)];exact h0
 rw [oM (by simpa using hc)];exact h0
theorem lv {e:EndD} {x:LetterD} (hs:Small e):Small (bO e x).1:=
 mF (Q:=fun r=>Small r.1) hs (t6 hs) (vZ hs) (v_ hs) (oN hs) (oO hs) (qh hs) (wc hs) (we hs) (wg hs) (wh hs) (wj hs) (t7 hs)
theorem Cx {e:EndD} {x:LetterD}:(bO e x).2.length<=1:=by
 refine mF (Q:=fun r=>r.2.length<=1) zP ?_ ?_ ?_ ?_ ?_ ?_ ?_ ?_ ?_ ?_ ?_ ?_
 ·rw [aV];split<;>simp
 ·rw [bC];split<;>simp
 ·rw [cj];split
  ·split<;>simp
  simp
 ·rw [aW];split<;>simp
 ·rw [aF];split
  ·split
   ·simp
   split<;>simp
  simp
 ·rw [bg];simp
 ·rw [cF];split<;>simp
 ·rw [cG];simp
 ·rw [cH];simp
 ·rw [cJ];split<;>simp
 ·rw [cv];simp
 rw [bW];simp
theorem MM {p:PiecesD} {m:Int} (h:0<=m):(if (p.ready.length:Int) < m then (p.ready.length:Int) else m)=(yQ p m:Int):=by
 rw [yQ]
 split<;>omega
theorem Ow {p:PiecesD} {m:Int}:yQ p m<=p.ready.length:=Nat.min_le_right _ _
theorem SmallP.of {e:EndD} (h:SmallP e.inp):e.inp.list.length<=1048576:=h.list
theorem ws (p:PiecesD) (m:Int) (hs:SmallP p):aP 141 [.ag (p.cs 0),.sc (.int .i64 m)] (p.hp false) (.tu [.ag ((bs p m).1.cs 1),.sc (.st (bs p m).2)]) (p.hp false++(bs p m).1.hp true):=by
 have hf:=Q6 (p:=p) (m:=m)
 have ht:=Q5 (p:=p) (m:=m)
 have hC:=aC p hs.list
 have hK:=cD p hs.list
 generalize bs p m=R at*
 refine yu func141 ntmps141 results141 fun E hE=>?_
 refine qK (hC) (qI 0 1) ?_
 refine qK (hK) (qI 0 1) ?_
 refine qB (fun b1=>?_) fun b1=>?_
 ·have F:=cI b1 hs
  have f0:=F.r0
  have f1:=F.r1
  have f2:=F.ready
  refine qB (fun b2=>?_) fun b2=>?_
  ·rw [hf (by simp only [Cz,Bool.and_eq_false_iff,decide_eq_false_iff_not];omega)]
   refine qX ?_
   exact jh (qI 0 1++qI 3 1)
  have hm:=MM (p:=p) (m:=m) zO
  have hle:=Ow (p:=p) (m:=m)
  have hok:Cz p m=decide (p.read+(yQ p m:Int)<=1000000000):=by rw [Cz,b1,decide_eq_true (show 0<=m by omega)];rfl
  generalize yQ p m=N at*
  try simp (disch:=omega) only [go_sem,seval,hm]
  refine qB (fun b3=>?_) fun b3=>?_
  ·rw [hf (by rw [hok];simp;omega)]
   refine qX ?_
   exact jh (qI 0 1++qI 3 1)
  rw [ht (by rw [hok];simp;omega)]
  refine qX ?_
  refine bj [(2,5),(4,5)] [(2,4)] [[0,1,3,2,4,5,6],[0,1,3,2,5,4,6],[0,1,3,5,2,4,6]] 1 hE (fun s=>s.at (qU [39,5]) [(5,.sc (.st (p.ready.take N)))] (s.hp.set 2 (some ⟨[[.int .i64 (p.read+(N:Int)),.st (p.ready.drop N),.sl 3 0 p.list.length]],3,51,true,false⟩))) (by kernel_rfl) (qC) (by kernel_rfl) ?_ (aa 400 ?_)
  rotate_left
  rotate_right
  simp only [a_]
  refine⟨ab 400 ?_,ab 400 ?_,ab 400 ?_⟩
  ·simp (disch:=omega) only [go_sem]
   exact qZ (qI 0 5)
  ·simp (disch:=omega) only [go_sem]
   exact qZ (qI 0 5)
  ·simp (disch:=omega) only [go_sem]
   exact qZ (qI 0 5)
  refine qX ?_
  exact jh (qI 0 1++qI 3 1)
 rw [hf (by simp [Cz,b1])]
 refine qX ?_
 exact jh (qI 0 1++qI 3 1)
theorem oP (e:EndD) (t:List UInt8) (hs:Small e) (ht:t.length<=1048576):aP 91 [.ag (e.cs 0),.sc (.st t)] (e.hp false) (.tu [.ag ((write e t).1.cs 7),.sc (.int .i64 ((write e t).2:Nat))]) (e.hp false++(write e t).1.hp true):=by
 have hC:=(qH (aB e))
 have hK:=(qH (bb e))
 have hA:=CB e.out t ht
 have hf:=MH (e:=e) (t:=t)
 have htt:=Al (e:=e) (t:=t)
 generalize write e t=R at*
 refine qE func91 ntmps91 results91 fun E hE=>?_
 refine qK (hC) (qI 0 7) ?_
 refine qK (hK) (qI 0 7) ?_
 refine qB (fun b1=>?_) fun b1=>?_
 ·rw [hf b1]
  refine qX ?_
  exact qF (qI 0 7++qI 9 7)
 rw [htt b1]
 refine qX ?_
 refine qK (hA) [] ?_
 exact qF (qI 0 7++qI 9 7)
theorem yT (e:EndD) (m:Int) (hs:Small e) (hsp:SmallP e.inp):aP 93 [.ag (e.cs 0),.sc (.int .i64 m)] (e.hp false) (.tu [.ag ((bu e m).1.cs 7),.sc (.st (bu e m).2)]) (e.hp false++(bu e m).1.hp true):=by
 have hC:=(qH (aB e))
 have hK:=(qH (bb e))
 have hA:=ws e.inp m hsp
 have hf:=MI (e:=e) (m:=m)
 have htt:=Ao (e:=e) (m:=m)
 generalize bu e m=R at*
 refine qE func93 ntmps93 results93 fun E hE=>?_
 refine qK (hC) (qI 0 7) ?_
 refine qK (hK) (qI 0 7) ?_
 refine qB (fun b1=>?_) fun b1=>?_
 ·rw [hf b1]
  refine qX ?_
  exact qF (qI 0 7++qI 9 7)
 rw [htt b1]
 refine qX ?_
 refine qK (hA) (qI 4 1) ?_
 exact qF (qI 0 7++qI 9 4++qI 17 1++qI 14 2)
end
end Go.Proofs.YtdiiopjaebnmfaaGreatDoor
