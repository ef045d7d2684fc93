/- Lemmas of this claim. -/
import Derived.Test.YtdiiopjaebnmfaaGreatDoorZFnScriptsI
import Derived.Test.YtdiiopjaebnmfaaGreatDoorZFnScriptsM
import Derived.Test.YtdiiopjaebnmfaaGreatDoorZFnScriptsN
set_option maxHeartbeats 16000000
set_option maxRecDepth 100000
set_option linter.unusedVariables false
set_option linter.unusedSimpArgs false
namespace Go.Proofs.YtdiiopjaebnmfaaGreatDoor
open _root_.Go.Proofs.Tryz
open _root_.Bool renaming and_eq_true->Ru,not_eq_true'->RK,or_eq_true->RT,true_and->Sr,or_eq_false_iff->SA,not_eq_false'->SE,not_eq_true->SG,false_and->SK
open _root_.List renaming getElem_mem->Rv,mem_singleton->Rw,mem_append->Rz,pairwise_iff_getElem->RA,mem_or_eq_of_mem_set->RB,getElem_of_mem->RC,length_append->RD,length_drop->RE,length_set->RF,getElem_set->RG,mem_append_left->RH,all_eq_true->RI,length_singleton->RJ,pairwise_singleton->RL,length_take->RM,mem_map->RO,pairwise_append->RP,append_nil->RQ,mem_cons->RR,mem_take_iff_getElem->RS,mem_filter->RU,mem_cons_self->RW,length_map->RX,mem_cons_of_mem->RY,length_cons->RZ,mem_set->R0,takeWhile_cons->R1,drop_append_of_le_length->R3,take_append_drop->R5,mem_of_mem_take->R6,mem_iff_getElem->R7,any_eq_true->R8,getD_eq_getElem?_getD->R9,mem_drop_iff_getElem->R_,getElem?_eq_getElem->Sb,pairwise_cons->Sd,set_cons_succ->Se,getElem_cons_zero->Sf,all_cons->Sg,mem_flatMap->Sh,mem_append_right->Si,mem_of_mem_drop->Sj,all_nil->Sk,filter_sublist->Sl,drop_drop->Sm,filter_congr->Ss,drop_sublist->Su,append_assoc->Sv,getElem_map->Sw,cons_append->Sy,dropWhile_cons->SB,getElem_set_ne->SC,headD_cons->SH,filter_nil->SI,length_nil->SJ,map_cons->SL,map_map->SM
open _root_.Int renaming le_refl->Rx,toNat_natCast->Ry,le_trans->RV,eq_ofNat_of_zero_le->R2,lt_of_lt_of_le->Sq,le_of_eq->Sz
open _root_.Nat renaming lt_trichotomy->R4,le_trans->Sa,le_refl->Sn,add_sub_cancel->So,lt_or_gt_of_ne->Sp,min_le_right->Sx,eq_zero_or_pos->SD,zero_le->SF
section
open Go.RowKit
def iC:WorldD:=⟨eY,eY,[],[],[],[],[],[],⟨[],[]⟩,[],[],[]⟩
def gY (p:PolicyD):WorldD×Bool:=
 if (gg 1 11 p).2 && (gg 2 21 p).2 then
  ({ iC with a:=(jU (gg 1 11 p).1 (gg 2 21 p).1).1,b:=(jU (gg 1 11 p).1 (gg 2 21 p).1).2.1,known:=⟨[5,7],[]⟩},true)
 else (iC,false)
theorem KG {k:Nat} {g:PpS} {x:PieceD} (h:PpI k g) (hk:k<=20) (hx:x.text.length<=200/\0<=x.pos/\x.pos<=2000000000):PpI (k+1) (jK g x):=by
 rw [jK];split
 ·exact Gw h hx.1
 split
 ·cases hl:g.laid with
  |true=>simp only [if_true];exact EQ h hl hx.1
  |false=>simp only [Bool.false_eq_true,if_false];exact ER h hk hl hx.1
 exact Ke h hx.1 hx.2.1 hx.2.2
theorem KH:∀ {l:List PieceD} {k:Nat} {g:PpS},PpI k g->k+l.length<=20->(∀ x∈l,x.text.length<=200/\0<=x.pos/\x.pos<=2000000000)->PpI (k+l.length) (rZ g l)
 |[],k,g,h,_,_=>h
 |x::r,k,g,h,hk,hx=>by
  simp only [RZ] at hk⊢
  have:=KH (l:=r) (KG h zO (hx x zP)) zO (fun y hy=>hx y (by simp [hy]))
  rw [show k+(r.length+1)=k+1+r.length by omega]
  exact this
theorem M3 {k:Nat} {g:PpS} (h:PpI k g) (hk:k<=20):(∀ z∈kG g,z.text.length<=5000)/\(kG g).length<=100:=by
 have ho:=h.own
 have ha:=h.acc
 rw [kG];split
 ·refine⟨h.texts,?_⟩
  split at ha<;>omega
 refine⟨fun z hz=>?_,?_⟩
 ·rcases Rz.1 hz with hz|hz
  ·exact h.texts z hz
  simp only [Rw] at hz;subst hz;omega
 simp only [RD,RJ]
 split at ha<;>omega
theorem tF {p:PiecesD} {n:Int} {t:List UInt8} (hs:SmallP p) (hp:piecesOk p=true) (h0:0<=n) (h1:n<=2000000000) (ht:t.length<=200):SmallP (mw p n t):=by
 have F:=cI hp hs
 have hI:=KH (l:=p.list) (vJ h0 h1 ht) (by have:=F.list;omega) F.texts
 obtain⟨h2,h3⟩:=M3 hI (by have:=F.list;omega)
 rw [mw]
 generalize kG (rZ ⟨⟨n,t⟩,false,[]⟩ p.list)=l at h2 h3
 rw [lU];split
 ·have hr:=F.ready
  rw [oe]
  cases l with
  |nil=>split<;>exact⟨zP,by simp [List.headD];first|omega|exact hs.ready,zP⟩
  |cons y r=>
   have hy:=h2 y zP
   simp only [RZ] at h3
   split
   ·exact⟨by simp only [List.tail_cons];omega,by simp only [SH,RD];omega,fun z hz=>by have:=h2 z (RY _ hz);omega⟩
   exact⟨by simp only [RZ];omega,by dsimp only;omega,fun z hz=>by have:=h2 z hz;omega⟩
 exact hs
theorem mM {p:PiecesD} {n:Int} {t:List UInt8} (hs:SmallP p):SmallP (putPiece p n t):=by
 rw [putPiece];split
 ·rename_i h
  simp only [xP,eg,dJ,Ru,decide_eq_true_eq] at h
  obtain⟨⟨hp,hn⟩,ht⟩:=h
  split
  ·exact hs
  split
  ·have F:=cI hp hs
   have hr:=F.ready
   have:=F.next
   have:=F.r0
   have:=F.r1
   exact tF hs hp zO zO (by rw [RE];omega)
  exact tF hs hp zO zO zO
 exact hs
structure GoodE (e:EndD):Prop where
 s:Small e
 p:SmallP e.inp
 o:e.out.text.length<=1048576
theorem KI (o:OutD) (n:Int):(came o n).text.length<=o.text.length:=by
 rw [came];split
 ·simp only [RE];omega
 exact Sn _
theorem If {e:EndD} {x:LetterD} (h:GoodE e):GoodE (bO e x).1:=by
 have io:(bO e x).1.inp=e.inp/\(bO e x).1.out=e.out\/SmallP (bO e x).1.inp/\(bO e x).1.out.text.length<=1048576:=by
  refine mF (Q:=fun r=>r.1.inp=e.inp/\r.1.out=e.out\/SmallP r.1.inp/\r.1.out.text.length<=1048576) (.inl ⟨rfl,rfl⟩) ?_ ?_ ?_ ?_ ?_ ?_ ?_ ?_ ?_ ?_ ?_ ?_
  ·unfold aV;repeat' split
   all_goals exact .inl ⟨rfl,rfl⟩
  ·unfold bC;repeat' split
   all_goals exact .inl ⟨rfl,rfl⟩
  ·unfold cj;repeat' split
   all_goals exact .inl ⟨rfl,rfl⟩
  ·unfold aW;repeat' split
   all_goals exact .inl ⟨rfl,rfl⟩
  ·unfold aF;repeat' split
   all_goals exact .inl ⟨rfl,rfl⟩
  ·unfold bg;dsimp only;split
   all_goals exact .inl ⟨rfl,rfl⟩
  ·unfold cF;repeat' split
   all_goals exact .inl ⟨rfl,rfl⟩
  ·unfold cG;dsimp only;split
   all_goals exact .inl ⟨rfl,rfl⟩
  ·unfold cH;dsimp only;split
   all_goals exact .inl ⟨rfl,rfl⟩
  ·unfold cJ;split
   ·exact .inr ⟨mM h.p,h.o⟩
   exact .inl ⟨rfl,rfl⟩
  ·unfold cv;dsimp only;split
   ·exact .inr ⟨h.p,Sa (KI _ _) h.o⟩
   exact .inl ⟨rfl,rfl⟩
  unfold bW;dsimp only;split
  all_goals exact .inl ⟨rfl,rfl⟩
 rcases io with⟨h1,h2⟩|⟨h1,h2⟩
 ·exact⟨lv h.s,by rw [h1];exact h.p,by rw [h2];exact h.o⟩
 exact⟨lv h.s,h1,h2⟩
theorem GoodE.io {e e':EndD} (h:GoodE e) (hs:Small e') (hi:e'.inp=e.inp) (ho:e'.out.text=e.out.text):GoodE e':=⟨hs,by rw [hi];exact h.p,by rw [ho];exact h.o⟩
theorem Fd {k:Nat} {e:EndD} (h:GoodE e):GoodE (bZ k e).1:=h.io (iT h.s) nu lx
theorem Ig (e:EndD) (t:List UInt8):(write e t).1.inp=e.inp:=by rw [write];split<;>rfl
theorem xZ {e:EndD} {t:List UInt8} (h:GoodE e):GoodE (bh e t).1:=by
 rw [bh]
 exact Fd ⟨tB h.s,by rw [Ig];exact h.p,oR h.o⟩
theorem wR {p:PiecesD} {m:Int} (h:SmallP p):SmallP (bs p m).1:=by
 rw [bs];split
 ·exact⟨h.list,by have:=h.ready;simp only [RE];omega,h.texts⟩
 exact h
theorem Fe {e:EndD} {m:Int} (h:GoodE e):GoodE (bu e m).1:=by
 have hs:=mJ (m:=m) h.s
 rw [bu] at hs⊢;split at hs
 ·rename_i hk;rw [if_pos hk];exact⟨hs,wR h.p,h.o⟩
 rename_i hk;rw [if_neg hk];exact h
theorem y8 (o:OutD):(jL o).text=o.text:=by rw [jL];split<;>rfl
theorem Ih {e:EndD} (h:GoodE e):GoodE (tick e).1:=by
 have hs:=oQ h.s
 refine h.io hs ?_ ?_
 ·rw [tick];split
  ·split
   ·rw [bA];exact nu
   rw [bA];exact nu
  rfl
 rw [tick];split
 ·split
  ·rw [bA];exact lx.trans (y8 _)
  rw [bA];exact lx.trans (y8 _)
 rfl
theorem M4 (e:EndD) (r:RoadD) (b:Bool):(dE e r b).1.inp=e.inp/\(dE e r b).1.out=e.out:=by rw [dE];split<;>exact⟨rfl,rfl⟩
theorem CR {far:List AddrD}:∀ {l:List RoadD} {e:EndD},(dm far e l).1.inp=e.inp/\(dm far e l).1.out=e.out
 |[],e=>⟨rfl,rfl⟩
 |r::l,e=>by
  have h1:=M4 e r (aZ far r.far)
  have h2:=CR (far:=far) (l:=l) (e:=(dE e r (aZ far r.far)).1)
  exact⟨h2.1.trans h1.1,h2.2.trans h1.2⟩
theorem CT {e:EndD} (h:GoodE e):GoodE (manage e).1:=by
 have hs:=lz h.s
 have hio:(manage e).1.inp=e.inp/\(manage e).1.out=e.out:=by
  rw [manage];split
  ·exact CR
  exact⟨rfl,rfl⟩
 exact h.io hs hio.1 (by rw [hio.2])
theorem CU {e:EndD} {a:AddrD} (h:GoodE e):GoodE (aN e a).1:=by
 refine h.io (gX h.s) ?_ ?_<;>(rw [aN];split<;>rfl)
theorem CV {e:EndD} {k:Int} (h:GoodE e):GoodE (cp e k).1:=by
 refine h.io (ly h.s) ?_ ?_<;>(rw [cp];split<;>rfl)
theorem AO {e:EndD} {n:Int} (h:GoodE e):GoodE (bz e n).1:=by
 refine h.io (ks h.s) ?_ ?_<;>(rw [bz];split<;>rfl)
theorem Ii {e:EndD} {a:ActD} (h:GoodE e):GoodE (dq e a).1:=by
 rw [dq]
 split
 ·exact xZ h
 split
 ·exact Fe h
 split
 ·exact Ih h
 split
 ·exact CT h
 split
 ·exact CU h
 split
 ·exact AO h
 exact CV h
structure GoodW (w:WorldD) (k:Nat):Prop where
 a:GoodE w.a
 b:GoodE w.b
 r:SmallP2 w
 wa:w.wroteA.length<=2000000*k
 wb:w.wroteB.length<=2000000*k
 ra:w.readA.length<=2000000*k
 rb:w.readB.length<=2000000*k
theorem GoodW.s {w:WorldD} {k:Nat} (h:GoodW w k):SmallW w:=⟨h.a.s,h.b.s,h.r.bag,h.r.past,h.r.keys,h.r.tags,h.r.nums,h.r.ansA,h.r.ansB⟩
theorem GoodW.d {w:WorldD} {k:Nat} (h:GoodW w k) (hk:k<=1000):SmallD w:=
 ⟨⟨h.s,h.a.p,h.b.p⟩,⟨by have:=h.wa;omega,by have:=h.wb;omega,by have:=h.ra;omega,by have:=h.rb;omega⟩,h.a.o,h.b.o⟩
theorem GoodW.up {w:WorldD} {k:Nat} (h:GoodW w k):GoodW w (k+1):=⟨h.a,h.b,h.r,by have:=h.wa;omega,by have:=h.wb;omega,by have:=h.ra;omega,by have:=h.rb;omega⟩
theorem gy {side:Int}:∀ {l:List LetterD} {w:WorldD},(az side w l).a=w.a/\(az side w l).b=w.b/\(az side w l).wroteA=w.wroteA/\(az side w l).wroteB=w.wroteB/\(az side w l).readA=w.readA/\(az side w l).readB=w.readB
 |[],w=>⟨rfl,rfl,rfl,rfl,rfl,rfl⟩
 |x::l,w=>by
  obtain⟨h1,h2,h3,h4,h5,h6⟩:=gy (side:=side) (l:=l) (w:=br side w x)
  obtain⟨g1,g2,g3,g4,g5,g6⟩:=iy (side:=side) (w:=w) (x:=x)
  exact⟨h1.trans g1,h2.trans g2,h3.trans g3,h4.trans g4,h5.trans g5,h6.trans g6⟩
theorem wS {side:Int} {l:List LetterD} {w:WorldD} {k:Nat} (h:GoodW w k):GoodW (az side w l) k:=by
 obtain⟨h1,h2,h3,h4,h5,h6⟩:=gy (side:=side) (l:=l) (w:=w)
 exact⟨by rw [h1];exact h.a,by rw [h2];exact h.b,tq h.r,by rw [h3];exact h.wa,by rw [h4];exact h.wb,by rw [h5];exact h.ra,by rw [h6];exact h.rb⟩
theorem tG {w:WorldD} {s:Int} {e:EndD} {k:Nat} (h:GoodW w k) (he:GoodE e):GoodW (aJ w s e) k:=by
 unfold aJ;split
 ·exact⟨he,h.b,⟨h.r.bag,h.r.past,h.r.keys,h.r.tags,h.r.nums,h.r.ansA,h.r.ansB⟩,h.wa,h.wb,h.ra,h.rb⟩
 exact⟨h.a,he,⟨h.r.bag,h.r.past,h.r.keys,h.r.tags,h.r.nums,h.r.ansA,h.r.ansB⟩,h.wa,h.wb,h.ra,h.rb⟩
theorem AP:GoodE eY:=⟨⟨by decide,by decide,by decide,by decide,by decide,by decide,by decide⟩,⟨by decide,by decide,fun x hx=>by simp [eY] at hx⟩,by decide⟩
theorem oV {w:WorldD} {s:Int} {k:Nat} (h:GoodW w k):GoodE (bJ w s):=by
 unfold bJ;repeat' split
 ·exact h.a
 ·exact h.b
 exact AP
theorem CX {side:Int} {l:List LetterD} {w:WorldD} {k:Nat} (h:GoodW w k):GoodW (iZ w side l) k:=by
 rw [iZ];split
 ·exact wS h
 exact h
theorem Ff {w:WorldD} {x:LetterD} {k:Nat} (h:GoodW w k):GoodW (ed w x) k:=by
 rw [ed];split
 ·exact h
 exact CX (tG h (If (oV h)))
theorem wT {w:WorldD} {b:List LetterD} {k:Nat} (h:GoodW w k) (hb:b.length<=1048576):GoodW { w with bag:=b } k:=
 ⟨h.a,h.b,⟨hb,h.r.past,h.r.keys,h.r.tags,h.r.nums,h.r.ansA,h.r.ansB⟩,h.wa,h.wb,h.ra,h.rb⟩
theorem Fg (l:List LetterD) (n:Int) (h:l.length<=1048576):(iz l n).length<=1048576:=by
 simp only [iz,RD,RM,RE];omega
theorem Ij {w:WorldD} {a:ActD} {k:Nat} (h:GoodW w k) (ha:a.text.length<=1048576):GoodW (eB w a) (k+1):=by
 have hr:=sn (m:=a.many) (oV (s:=a.side) h).p
 have h1:=h.wa
 have h2:=h.wb
 have h3:=h.ra
 have h4:=h.rb
 have hu:=h.up
 unfold eB e7 cL;repeat' split
 ·exact⟨h.a,h.b,⟨h.r.bag,h.r.past,h.r.keys,h.r.tags,h.r.nums,h.r.ansA,h.r.ansB⟩,by simp only [RD,RM];omega,hu.wb,hu.ra,hu.rb⟩
 ·exact⟨h.a,h.b,⟨h.r.bag,h.r.past,h.r.keys,h.r.tags,h.r.nums,h.r.ansA,h.r.ansB⟩,hu.wa,by simp only [RD,RM];omega,hu.ra,hu.rb⟩
 ·exact⟨h.a,h.b,⟨h.r.bag,h.r.past,h.r.keys,h.r.tags,h.r.nums,h.r.ansA,h.r.ansB⟩,hu.wa,hu.wb,by simp only [RD];omega,hu.rb⟩
 ·exact⟨h.a,h.b,⟨h.r.bag,h.r.past,h.r.keys,h.r.tags,h.r.nums,h.r.ansA,h.r.ansB⟩,hu.wa,hu.wb,hu.ra,by simp only [RD];omega⟩
 exact hu
theorem lB {w:WorldD} {a:ActD} {k:Nat} (h:GoodW w k) (ha:a.text.length<=1048576):GoodW (dy w a).1 (k+1):=by
 have hb:=Fg w.bag a.pos h.r.bag
 have hl:=h.r.bag
 unfold dy;split
 ·split
  ·unfold aU;split
   ·exact h.up
   exact wS (tG (Ij h ha) (Ii (oV h)))
  unfold bq;repeat' split
  all_goals first
   |exact h.up
   |exact (Ff (wT h hb)).up
   |exact (wT h hb).up
   |exact (wT h (by simp only [RD,RJ];omega)).up
 exact h.up
def AQ (e:EndD):Bool:=wQ e && decide (e.inp.list=[]) && decide (e.inp.ready.length=0) && decide (e.out.text.length=0) && decide (e.subs.length<=100) && decide (e.far.length<=100)
theorem tH {e:EndD} (h:AQ e=true):GoodE e/\Rh e:=by
 simp only [AQ,Ru,decide_eq_true_eq] at h
 obtain⟨⟨⟨⟨⟨h1,h2⟩,h3⟩,h4⟩,h5⟩,h6⟩:=h
 exact⟨⟨oU h1,⟨by rw [h2];decide,zO,fun x hx=>by rw [h2] at hx;simp at hx⟩,zO⟩,h5,h6⟩
def gh (x y:EndD):WorldD:=⟨x,y,[],[],[],[],[],[],⟨[5,7],[]⟩,[],[],[]⟩
def startE (x y:EndD):Bool:=ax x && ax y && decide (x.state=2/\y.state=2/\x.side=1/\y.side=2/\x.key=1001/\y.key=1002/\x.peer=1002/\y.peer=1001/\x.draw=1005/\y.draw=1006/\x.now=0/\y.now=0) &&
 decide (x.halfs=[]/\y.halfs=[]/\x.own=fV 11/\y.own=fV 21/\x.far=gf 21/\y.far=gf 11/\x.bucket=⟨1,3,3⟩/\y.bucket=⟨1,3,3⟩) &&
 decide (x.out=⟨[],0,0,120⟩/\y.out=⟨[],0,0,120⟩) && decide (x.inp.read=0/\x.inp.ready=[]/\x.inp.list=[]/\y.inp.read=0/\y.inp.ready=[]/\y.inp.list=[]) &&
 decide (x.subs=[⟨⟨11,21,0⟩,3,false,0,0,1004,1003,0⟩]/\y.subs=[⟨⟨21,11,0⟩,3,false,0,0,1003,1004,0⟩])
structure Start (w:WorldD):Prop where
 e:startE w.a w.b=true
 bag:w.bag=[]
 past:w.past=[]
 keys:w.known.keys=[5,7]
 tags:w.known.tags=[]
 nums:w.nums=[]
 wa:w.wroteA=[]
 wb:w.wroteB=[]
 ra:w.readA=[]
 rb:w.readB=[]
 na:w.answersA=[]
 nb:w.answersB=[]
structure Start2 (w:WorldD):Prop where
 pol:w.a.policy∈pols
 done:w.a.done=[]/\w.b.done=[]
 over:w.a.over=[]/\w.b.over=[]
structure CalmA (a:ActD):Prop where
 k:a.kind=1\/a.kind=2\/a.kind=3\/a.kind=4\/a.kind=5\/a.kind=8\/a.kind=9\/a.kind=10
 ad:a.kind=5->a.addr.id=1/\a.addr.addr=10*a.side+2
theorem tI (who n:Int) (p:PolicyD):aP 53 [.sc (.int .i64 who),.sc (.int .i64 n),.ag p.cs] [] (.tu [.ag ((gg who n p).1.cs 0),.sc (.bo (gg who n p).2)]) ((gg who n p).1.hp true):=by
 have hA:=jd (fV n) (by simp [fV])
 have hB:=vy 1 3
 rw [KJ,if_pos rfl] at hB
 have hf:= @CZ who n p
 have ht:= @wU who n p
 have hl:(fV n).length=1:=rfl
 have hcs:(fV n).map AddrD.cs=[AddrD.cs ⟨0,n,false,true⟩]:=rfl
 rw [hl,hcs] at hA
 generalize gg who n p=R at*
 refine qE func53 ntmps53 results53 fun E hE=>?_
 refine qK (aE _ _ _) [] ?_
 refine qB (fun h1=>?_) fun h1=>?_
 ·refine qK (iG p) [] ?_
  refine qB (fun h2=>?_) fun h2=>?_
  ·refine qK (hA) (qI 2 1) ?_
   refine qB (fun h3=>?_) fun h3=>?_
   ·rw [hf (by simp [h3])]
    refine qJ (qO 7) ?_
    simp [eY]
   rw [ht (by simp [h1,h2,h3])]
   simp only [dJ,Ru,decide_eq_true_eq] at h1
   refine qX ?_
   refine qK (hB) [] ?_
   refine qP (qI 2 1++qO 6) ?_
   first|exact⟨⟩|simp [fV,AddrD.cs]
  rw [hf (by simp [h2])]
  refine qX ?_
  refine qJ (qO 7) ?_
  simp [eY]
 rw [hf (by simp [h1])]
 refine qX ?_
 refine qJ (qO 7) ?_
 simp [eY]
def NJ:List PolicyD:=[⟨1,0⟩,⟨3,0⟩,⟨2,1⟩,⟨2,2⟩,⟨2,3⟩,⟨2,4⟩,⟨2,5⟩,⟨2,6⟩,⟨2,7⟩,⟨2,8⟩]
theorem y9 {p:PolicyD} (h:polOk p=true):p∈NJ:=by
 obtain⟨k,m⟩:=p
 rw [polOk] at h
 dsimp only at h
 split at h
 ·rename_i hk
  subst hk
  simp only [dJ,Ru,decide_eq_true_eq] at h
  have:m=1\/m=2\/m=3\/m=4\/m=5\/m=6\/m=7\/m=8:=zO
  rcases this with rfl|rfl|rfl|rfl|rfl|rfl|rfl|rfl<;>decide
 simp only [Ru,RT,beq_iff_eq] at h
 obtain⟨h1,rfl⟩:=h
 rcases h1 with rfl|rfl<;>decide
theorem NK:(NJ.all fun p=>startE (jU (eK 1 p) (eK 2 p)).1 (jU (eK 1 p) (eK 2 p)).2.1 && wQ (eK 1 p) && wQ (eK 2 p) && AQ (jU (eK 1 p) (eK 2 p)).1 && AQ (jU (eK 1 p) (eK 2 p)).2.1)=true:=by decide+kernel
theorem ny {s:Int} {p:PolicyD} (hs:s=1\/s=2) (hp:polOk p=true):gg s (10*s+1) p=(eK s p,true):=by
 rcases hs with rfl|rfl
 ·exact wU (by rw [hp];decide)
 exact wU (by rw [hp];decide)
theorem sr {s n:Int} {p:PolicyD} (hp:polOk p=false):gg s n p=(eY,false):=CZ (by rw [hp];simp)
theorem lC {p:PolicyD} (hp:polOk p=true):gY p=(gh (jU (eK 1 p) (eK 2 p)).1 (jU (eK 1 p) (eK 2 p)).2.1,true):=by
 have h1:=ny (s:=1) (.inl rfl) hp
 have h2:=ny (s:=2) (.inr rfl) hp
 rw [show (10*1+1:Int)=11 from rfl] at h1
 rw [show (10*2+1:Int)=21 from rfl] at h2
 rw [gY,h1,h2]
 rfl
theorem wV {p:PolicyD} (hp:polOk p=false):gY p=(iC,false):=by
 rw [gY,sr hp,sr hp]
 rfl
structure World0 (w:WorldD):Prop where
 g:GoodW w 0
 s:Start w
theorem ss {p:PolicyD} (hp:polOk p=true):World0 (gY p).1:=by
 have hm:=RI.1 NK p (y9 hp)
 simp only [Ru] at hm
 obtain⟨⟨⟨⟨m0,m1⟩,m2⟩,m3⟩,m4⟩:=hm
 obtain⟨g1,f1⟩:=tH m3
 obtain⟨g2,f2⟩:=tH m4
 rw [lC hp]
 exact⟨⟨g1,g2,⟨by simp [gh],by simp [gh],by simp [gh],by simp [gh],by simp [gh],by simp [gh],by simp [gh]⟩,by simp [gh],by simp [gh],by simp [gh],by simp [gh]⟩,⟨m0,rfl,rfl,rfl,rfl,rfl,rfl,rfl,rfl,rfl,rfl,rfl⟩⟩
def di (p:PolicyD) (l:List ActD):WorldD×List Int:=if polOk p=true/\l.length<=120 then i8 l (gY p).1 [] else (iC,[])
theorem x3 (p:PolicyD):aP 34 [.ag p.cs] [] (.tu [.ag ((gY p).1.cs 0),.sc (.bo (gY p).2)]) ((gY p).1.hp true):=by
 have h1:=tI 1 11 p
 have h2:=tI 2 21 p
 cases hp:polOk p with
 |false=>
  rw [wV hp]
  rw [sr hp] at h1 h2
  dsimp only at h1 h2⊢
  refine qE func34 ntmps34 results34 fun E hE=>?_
  refine qK (h1) [] ?_
  refine qK (h2) [] ?_
  refine qJ (qO 21) ?_
  simp [iC,eY]
 |true=>
  have i1:=ny (s:=1) (.inl rfl) hp
  have i2:=ny (s:=2) (.inr rfl) hp
  rw [show (10*1+1:Int)=11 from rfl] at i1
  rw [show (10*2+1:Int)=21 from rfl] at i2
  rw [i1] at h1
  rw [i2] at h2
  have hm:=RI.1 NK p (y9 hp)
  simp only [Ru] at hm
  obtain⟨⟨⟨⟨_,m1⟩,m2⟩,_⟩,_⟩:=hm
  have hM:=Ip (eK 1 p) (eK 2 p) (oU m1) (oU m2)
  rw [lC hp]
  clear i1 i2 m1 m2
  generalize eK 1 p=a at*
  generalize eK 2 p=c at*
  obtain⟨M,hMM⟩:∃ M,M=jU a c:=⟨_,rfl⟩
  rw [<-hMM] at hM⊢
  clear hMM
  obtain⟨X,Y,ok⟩:=M
  dsimp only at hM⊢
  refine qE func34 ntmps34 results34 fun E hE=>?_
  refine qK (h1) [] ?_
  refine qK (h2) [] ?_
  refine qK (hM) (qI 2 7++qI 10 7) ?_
  refine qP (qI 20 14++qO 2++qI 18 1++qO 4) ?_
  first|exact⟨⟩|simp [gh,cB]
theorem wW (p:PolicyD) (l:List ActD) (hl:l.length<=1048576) (ha:∀ a∈l,a.text.length<=1048576):aP 10 [.ag p.cs,.sc (.sl 0 0 l.length)] [some ⟨l.map ActD.cs,28,38,false,true⟩]
  (.tu [.ag ((di p l).1.cs 1),.sc (.sl 22 0 (di p l).2.length)]) ([some ⟨l.map ActD.cs,28,38,false,true⟩]++((di p l).1.hp true++[some ⟨(di p l).2.map cB,1,3,true,true⟩])):=by
 have hW:=x3 p
 by_cases hp:polOk p=true
 ·have h0:=(ss hp).g
  rw [lC hp] at hW h0
  dsimp only at hW h0
  by_cases h120:l.length<=120
  ·obtain⟨R,hR⟩:∃ R,R=di p l:=⟨_,rfl⟩
   rw [<-hR]
   rw [di,if_pos ⟨hp,h120⟩,lC hp] at hR
   dsimp only at hR
   generalize gh (jU (eK 1 p) (eK 2 p)).1 (jU (eK 1 p) (eK 2 p)).2.1=w0 at hW h0 hR
   refine yu func10 ntmps10 results10 fun E hE=>?_
   refine qK (hW) [] ?_
   refine Eh 1 hE (fun s (y:Nat×WorldD×List Int)=>s.at (qU [0,3,7,1,10,16,29,15]) [(28,.sc (.int .i64 (y.1:Nat))),(8,.sc (.sl 25 0 y.2.2.length))] ((s.hp.take 3)++(y.2.1.hp true++[some ⟨[WorldD.cs y.2.1 3],61,60,true,false⟩,some ⟨y.2.2.map cB,1,3,true,true⟩]))) (fun (y:Nat×WorldD×List Int)=>y.1<=l.length/\GoodW y.2.1 y.1/\y.2.2.length=y.1/\i8 (l.drop y.1) y.2.1 y.2.2=R) (fun (y:Nat×WorldD×List Int)=>l.length - y.1) (0,w0,[]) (qI 0 25++qO 1) (⟨SF _,h0,rfl,hR.symm⟩) fun y hy N hN=>?_
   obtain⟨k,w,cs⟩:=y
   obtain⟨f1,f2,f3,f4⟩:=hy
   dsimp only at f1 f2 f3 f4
   refine qR ?_
   refine qB (fun h=>?_) fun h=>?_
   ·rw [CY h] at f4
    have hak:=ha l[k] (Rv h)
    have hD:=Ic w l[k] (f2.d zO)
    have hG:=lB f2 (a:=l[k]) hak
    generalize hx:l[k]=x at*
    obtain⟨Q,hQ⟩:∃ Q,Q=dy w x:=⟨_,rfl⟩
    rw [<-hQ] at hD hG f4
    try simp (disch:=omega) only [go_sem,seval,hx]
    refine qK (hD) (qI 3 21) ?_
    refine O2 hN (k+1,Q.1,cs++[Q.2]) (qI 0 3++qI 27 21++qI 24 1++qI 50 1) (by (try dsimp only);exact⟨zO,hG,by simp [f3],f4⟩) ?_
    first|exact⟨⟩|simp [cB]
   rw [Fh zO] at f4
   subst f4
   refine qX ?_
   exact jh (qI 0 1++qI 3 21++qI 25 1)
  rw [di,if_neg (fun hc=>h120 hc.2)]
  dsimp only
  generalize gh (jU (eK 1 p) (eK 2 p)).1 (jU (eK 1 p) (eK 2 p)).2.1=w0 at hW h0
  refine yu func10 ntmps10 results10 fun E hE=>?_
  refine qK (hW) [] ?_
  refine Ro (qI 0 1++qO 22) ?_
  first|exact⟨⟩|simp [iC,eY]
 have hp:polOk p=false:=by simpa using hp
 rw [wV hp] at hW
 dsimp only at hW
 rw [di,if_neg (fun hc=>by rw [hp] at hc;cases hc.1)]
 dsimp only
 refine yu func10 ntmps10 results10 fun E hE=>?_
 refine qK (hW) [] ?_
 refine Ro (qI 0 1++qO 22) ?_
 first|exact⟨⟩|simp [iC,eY]
def AU (l:List LetterD):Prop:=∀ y∈l,¬ y.kind=5
theorem bK:AU []:=fun y hy=>by simp at hy
theorem gZ {x:LetterD} (h:¬ x.kind=5):AU [x]:=fun y hy=>by rw [Rw] at hy;rw [hy];exact h
theorem uo {l m:List LetterD} (h:AU l) (g:AU m):AU (l++m):=fun y hy=>(Rz.1 hy).elim (h y) (g y)
theorem GI {α:Type} {l:List α} {f:α->LetterD} (h:∀ a,¬ (f a).kind=5):AU (l.map f):=fun y hy=>by
 obtain⟨a,_,rfl⟩:=RO.1 hy
 exact h a
theorem KR {e:EndD}:AU (dv e).2:=by
 unfold dv;split
 ·exact gZ (by simp [wn,aq])
 exact bK
theorem su:∀ {k:Nat} {e:EndD},AU (bZ k e).2
 |0,e=>bK
 |k+1,e=>uo KR (su (k:=k))
theorem KS {e:EndD}:AU (ce e):=by
 unfold ce;split
 ·exact GI fun a=>by simp [oh,aq]
 exact bK
theorem Iv {e:EndD} {s:SubD}:AU (dO e s):=by
 unfold dO;repeat' split
 all_goals first|exact bK|exact gZ (by simp [fU,ci,aq])
theorem KT {e:EndD} {r:RoadD} {s:Bool}:AU (dE e r s).2:=by
 unfold dE;split
 ·exact gZ (by simp [fU,aq])
 exact bK
theorem za {far:List AddrD}:∀ {l:List RoadD} {e:EndD},AU (dm far e l).2
 |[],e=>bK
 |r::l,e=>uo KT (za (l:=l))
structure Keep (e e':EndD):Prop where
 now:e'.now=e.now
 bucket:e'.bucket=e.bucket
 halfs:e'.halfs=e.halfs
theorem Keep.refl (e:EndD):Keep e e:=⟨rfl,rfl,rfl⟩
theorem Keep.trans {a b c:EndD} (h:Keep a b) (g:Keep b c):Keep a c:=⟨g.now.trans h.now,g.bucket.trans h.bucket,g.halfs.trans h.halfs⟩
theorem Iw {e:EndD}:Keep e (dv e).1:=by unfold dv;split<;>exact⟨rfl,rfl,rfl⟩
theorem oW:∀ {k:Nat} {e:EndD},Keep e (bZ k e).1
 |0,e=>Keep.refl e
 |k+1,e=>Iw.trans (oW (k:=k))
theorem Ix {e:EndD} {r:RoadD} {s:Bool}:Keep e (dE e r s).1:=by unfold dE;split<;>exact⟨rfl,rfl,rfl⟩
theorem lD {far:List AddrD}:∀ {l:List RoadD} {e:EndD},Keep e (dm far e l).1
 |[],e=>Keep.refl e
 |r::l,e=>Ix.trans (lD (l:=l))
theorem Fp {e:EndD} {t:List UInt8}:Keep e (write e t).1:=by unfold write;split<;>exact⟨rfl,rfl,rfl⟩
structure YoungE (e:EndD):Prop where
 now:0<=e.now/\e.now<=1000000000
 rate:e.bucket.rate=1
 burst:e.bucket.burst=3
 cur:0<=e.bucket.cur/\e.bucket.cur<=3
 halfs:∀ h∈e.halfs,e.now < h.till/\h.till<=e.now+6
 few:e.halfs.length<=4
 subs:e.subs.length<=8
theorem YoungE.keep {e e':EndD} (h:YoungE e) (k:Keep e e') (hs:e'.subs.length<=8):YoungE e':=by
 obtain⟨k1,k2,k3⟩:=k
 exact⟨by rw [k1];exact h.now,by rw [k2];exact h.rate,by rw [k2];exact h.burst,by rw [k2];exact h.cur,by rw [k1,k3];exact h.halfs,by rw [k3];exact h.few,hs⟩
theorem zb {e:EndD}:(dv e).1.subs=e.subs:=by unfold dv;split<;>rfl
theorem iD:∀ {k:Nat} {e:EndD},(bZ k e).1.subs=e.subs
 |0,e=>rfl
 |k+1,e=>(iD (k:=k)).trans zb
theorem Iy {e:EndD} {r:RoadD} {s:Bool} (h:e.subs.length<=8):(dE e r s).1.subs.length<=8:=by
 unfold dE;split
 ·rename_i hk
  simp only [xU,Ru,decide_eq_true_eq] at hk
  simp only [RD,RJ]
  omega
 exact h
theorem w_ {far:List AddrD}:∀ {l:List RoadD} {e:EndD},e.subs.length<=8->(dm far e l).1.subs.length<=8
 |[],e,h=>h
 |r::l,e,h=>w_ (l:=l) (Iy h)
theorem xa {e:EndD} (h:YoungE e):bucketOk e.bucket=true:=by
 have h1:=h.rate;have h2:=h.burst;have h3:=h.cur
 simp only [bucketOk,dJ,Ru,decide_eq_true_eq]
 omega
def C8 (e:EndD) (r:EndD×List LetterD):Prop:=
 (r.1.now=e.now/\r.1.bucket=e.bucket/\AU r.2)\/(r.1.now=e.now/\0 < e.bucket.cur/\r.1.bucket={ e.bucket with cur:=e.bucket.cur - 1 }/\∃ y,r.2=[y])\/(r.1.now=e.now+1/\r.1.bucket={ e.bucket with cur:=min 3 (e.bucket.cur+1) }/\AU r.2)
theorem x5 {e:EndD} (h:YoungE e) (ht:(cK e.bucket).2=true):0 < e.bucket.cur/\(cK e.bucket).1={ e.bucket with cur:=e.bucket.cur - 1 }:=by
 rw [cK] at ht⊢
 have h3:=h.cur
 split at ht
 ·rename_i hc
  rw [if_pos hc]
  exact⟨by have:=hc.2;omega,rfl⟩
 simp at ht
theorem qu {l:List HalfD} {n:Nat} {t now:Int} (ht:now < t/\t<=now+6) (h:∀ h∈l,now < h.till/\h.till<=now+6) {q:HalfD} (hq:q.till=t):∀ h∈l.set n q,now < h.till/\h.till<=now+6:=fun y hy=>by
 rcases RB hy with hy|hy
 ·exact h y hy
 rw [hy,hq];exact ht
theorem x6 {l:List HalfD} {now:Int} {q:HalfD} (hq:now < q.till/\q.till<=now+6) (h:∀ h∈l,now < h.till/\h.till<=now+6) (hl:l.length<=4):(∀ h∈(bF l q).1,now < h.till/\h.till<=now+6)/\(bF l q).1.length<=4:=by
 rw [bF];split
 ·rename_i hk
  refine⟨?_,eC hk⟩
  dsimp only
  rw [cS];split
  ·exact qu hq h rfl
  intro y hy
  rcases Rz.1 hy with hy|hy
  ·exact h y hy
  rw [Rw.1 hy];exact hq
 exact⟨h,hl⟩
theorem mQ {l:List HalfD} {r:RoadD}:(∀ h∈bV l r,h∈l)/\(bV l r).length<=l.length:=by
 rw [bV];split
 ·exact⟨fun _ h=>h,Sn _⟩
 exact⟨fun y hy=>(Rz.1 hy).elim R6 Sj,by simp only [RD,RM,RE];omega⟩
theorem Iz {e:EndD} {x:LetterD} (h:YoungE e):C8 e (bO e x)/\YoungE (bO e x).1:=by
 have same:∀ {s:List SubD} {o f:List AddrD} {q:Int} {st k p:Int} {i:PiecesD} {u:OutD} {dn ov:List Int},s.length<=8->YoungE { e with subs:=s,own:=o,far:=f,draw:=q,state:=st,key:=k,peer:=p,inp:=i,out:=u,done:=dn,over:=ov }:=fun hs=>⟨h.now,h.rate,h.burst,h.cur,h.halfs,h.few,hs⟩
 have hsub:=h.subs
 have t0:∀ {e':EndD} {l:List LetterD},e'.now=e.now->e'.bucket=e.bucket->AU l->C8 e (e',l):=fun h1 h2 h3=>.inl ⟨h1,h2,h3⟩
 refine mF (Q:=fun r=>C8 e r/\YoungE r.1) ⟨t0 rfl rfl bK,h⟩ ?_ ?_ ?_ ?_ ?_ ?_ ?_ ?_ ?_ ?_ ?_ ?_
 ·unfold aV;split
  ·rename_i hk
   simp only [gO,Ru,decide_eq_true_eq] at hk
   exact⟨t0 rfl rfl (gZ (by simp [aq])),same (by simp only [RD,RJ];omega)⟩
  exact⟨t0 rfl rfl bK,h⟩
 ·unfold bC;split
  ·exact⟨t0 rfl rfl (gZ (by simp [aq])),same (by rw [RF];exact hsub)⟩
  exact⟨t0 rfl rfl bK,h⟩
 ·unfold cj;split
  ·rename_i hk
   simp only [mu,Ru,decide_eq_true_eq] at hk
   obtain⟨hc,hb⟩:=x5 h hk.2
   have ht:e.now < e.now+6/\e.now+6<=e.now+6:=zO
   split
   ·refine⟨.inr (.inl ⟨rfl,hc,hb,_,rfl⟩),⟨h.now,by rw [hb];exact h.rate,by rw [hb];exact h.burst,by rw [hb];have:=h.cur;dsimp only;omega,qu ht h.halfs rfl,by dsimp only;rw [RF];exact h.few,hsub⟩⟩
   obtain⟨p1,p2⟩:=x6 (q:=aw e x) ht h.halfs h.few
   exact⟨.inr (.inl ⟨rfl,hc,hb,_,rfl⟩),⟨h.now,by rw [hb];exact h.rate,by rw [hb];exact h.burst,by rw [hb];have:=h.cur;dsimp only;omega,p1,p2,hsub⟩⟩
  exact⟨t0 rfl rfl bK,h⟩
 ·unfold aW;split
  ·exact⟨t0 rfl rfl (gZ (by simp [ci,aq])),same (by rw [RF];exact hsub)⟩
  exact⟨t0 rfl rfl bK,h⟩
 ·unfold aF;split
  ·split
   ·rename_i hk
    simp only [tZ,Ru,decide_eq_true_eq] at hk
    have hd:=mQ (l:=e.halfs) (r:=roadOf x)
    refine⟨t0 rfl rfl (gZ (by simp [pY,aq])),⟨h.now,h.rate,h.burst,h.cur,fun y hy=>h.halfs y (hd.1 y hy),Sa hd.2 h.few,?_⟩⟩
    dsimp only
    split<;>simp only [bB,RD,RF,RJ]<;>omega
   split
   ·exact⟨t0 rfl rfl (gZ (by simp [pY,aq])),h⟩
   exact⟨t0 rfl rfl bK,h⟩
  exact⟨t0 rfl rfl bK,h⟩
 ·unfold bg;dsimp only;split
  ·exact⟨t0 rfl rfl bK,same (by rw [bB,RF];exact hsub)⟩
  exact⟨t0 rfl rfl bK,h⟩
 ·unfold cF;split
  ·exact⟨t0 rfl rfl (gZ (by simp [ti,aq])),same hsub⟩
  exact⟨t0 rfl rfl bK,h⟩
 ·unfold cG;dsimp only;split
  ·exact⟨t0 rfl rfl bK,same hsub⟩
  exact⟨t0 rfl rfl bK,h⟩
 ·unfold cH;dsimp only;split
  ·exact⟨t0 rfl rfl bK,same (by rw [RX];exact hsub)⟩
  exact⟨t0 rfl rfl bK,h⟩
 ·unfold cJ;split
  ·exact⟨t0 rfl rfl (gZ (by simp [vM,aq])),same hsub⟩
  exact⟨t0 rfl rfl bK,h⟩
 ·unfold cv;dsimp only;split
  ·exact⟨t0 rfl rfl bK,same hsub⟩
  exact⟨t0 rfl rfl bK,h⟩
 unfold bW;dsimp only;split
 ·exact⟨t0 rfl rfl bK,same (by rw [bB,RF];exact hsub)⟩
 exact⟨t0 rfl rfl bK,h⟩
theorem AW {e:EndD} {l:List LetterD} (hl:AU l):Keep e (bA e l).1/\AU (bA e l).2/\(bA e l).1.subs=e.subs:=⟨oW,uo (uo hl KS) su,iD⟩
theorem IA {e:EndD} (h:YoungE e):C8 e (tick e)/\YoungE (tick e).1:=by
 unfold tick;split
 ·rename_i hk
  simp only [GF,Ru,decide_eq_true_eq] at hk
  have hb:gV e.bucket={ e.bucket with cur:=min 3 (e.bucket.cur+1) }:=by
   rw [gV,if_pos (xa h),h.rate,h.burst]
   have h1:=h.rate
   have h2:=h.burst
   cases hb:e.bucket
   rw [hb] at h1 h2
   dsimp only at h1 h2⊢
   rw [h1,h2]
  have hn:=hk.1.2
  have hy:∀ s:List SubD,s.length<=8->YoungE { cP e with subs:=s }:=fun s hs=>by
   refine⟨by have:=h.now;simp only [cP];omega,by simp only [cP];rw [hb];exact h.rate,by simp only [cP];rw [hb];exact h.burst,by simp only [cP];rw [hb];have:=h.cur;dsimp only;omega,?_,?_,hs⟩
   ·intro y hy
    simp only [cP,ff,RU,decide_eq_true_eq] at hy⊢
    have:=h.halfs y hy.1
    omega
   simp only [cP,ff]
   exact Sa (List.length_filter_le _ _) h.few
  have fin:∀ (s:List SubD) (l:List LetterD),s.length<=8->AU l->C8 e (bA { cP e with subs:=s } l)/\YoungE (bA { cP e with subs:=s } l).1:=fun s l hs hl=>by
   obtain⟨k1,k2,k3⟩:=AW (e:={ cP e with subs:=s }) hl
   refine⟨.inr (.inr ⟨k1.now,by rw [k1.bucket];exact hb,k2⟩),(hy s hs).keep k1 (by rw [k3];exact hs)⟩
  split
  ·exact fin _ _ (by rw [RX];exact h.subs) fun y hy=>by
    obtain⟨s,_,hs⟩:=Sh.1 hy
    exact Iv y hs
  exact fin e.subs [] h.subs bK
 exact⟨.inl ⟨rfl,rfl,bK⟩,h⟩
theorem IB {e:EndD} {a:ActD} (h:YoungE e):C8 e (dq e a)/\YoungE (dq e a).1:=by
 unfold dq
 split
 ·have hk:Keep e (bh e a.text).1:=Fp.trans oW
  have hs:(bh e a.text).1.subs=e.subs:=by rw [bh,iD];unfold write;split<;>rfl
  exact⟨.inl ⟨hk.now,hk.bucket,su⟩,h.keep hk (by rw [hs];exact h.subs)⟩
 split
 ·have hk:Keep e (bu e a.many).1:=by unfold bu;split<;>exact⟨rfl,rfl,rfl⟩
  have hs:(bu e a.many).1.subs=e.subs:=by unfold bu;split<;>rfl
  exact⟨.inl ⟨hk.now,hk.bucket,bK⟩,h.keep hk (by rw [hs];exact h.subs)⟩
 split
 ·exact IA h
 split
 ·unfold manage;split
  ·exact⟨.inl ⟨lD.now,lD.bucket,za⟩,h.keep lD (w_ h.subs)⟩
  exact⟨.inl ⟨rfl,rfl,bK⟩,h⟩
 split
 ·have hk:Keep e (aN e a.addr).1:=by unfold aN;split<;>exact⟨rfl,rfl,rfl⟩
  have hs:(aN e a.addr).1.subs=e.subs:=by unfold aN;split<;>rfl
  exact⟨.inl ⟨hk.now,hk.bucket,bK⟩,h.keep hk (by rw [hs];exact h.subs)⟩
 split
 ·unfold bz;split
  ·exact⟨.inl ⟨rfl,rfl,GI fun k=>by simp [wo,aq]⟩,⟨h.now,h.rate,h.burst,h.cur,h.halfs,h.few,by dsimp only;rw [dI,RX];exact h.subs⟩⟩
  exact⟨.inl ⟨rfl,rfl,bK⟩,h⟩
 unfold cp;split
 ·exact⟨.inl ⟨rfl,rfl,gZ (by simp [aq])⟩,⟨h.now,h.rate,h.burst,h.cur,h.halfs,h.few,by dsimp only;rw [bB,RF];exact h.subs⟩⟩
 exact⟨.inl ⟨rfl,rfl,bK⟩,h⟩
def cntF (l:List Int) (f g:Int):Nat:=(l.filter fun x=>decide (f<=x) && decide (x<=g)).length
theorem C9 (l:List Int) (n f g:Int):cntF (l++[n]) f g=cntF l f g+(if f<=n/\n<=g then 1 else 0):=by
 rw [cntF,cntF,List.filter_append,RD]
 congr 1
 by_cases h:f<=n/\n<=g
 ·rw [if_pos h];simp [h.1,h.2]
 rw [if_neg h]
 by_cases h1:f<=n
 ·simp [h1,show ¬ n<=g by omega]
 simp [h1]
structure AnsI (l:List Int) (e:EndD):Prop where
 y:YoungE e
 t:∀ x∈l,0<=x/\x<=e.now
 i:∀ f:Int,f<=e.now->(cntF l f e.now:Int)+e.bucket.cur<=3+(e.now - f)
 j:∀ f g:Int,f<=g->g<=e.now->(cntF l f g:Int)<=3+(g - f)
theorem GJ {l:List Int} {f g k:Int} (ht:∀ x∈l,x<=g) (h:g<=k):cntF l f k=cntF l f g:=by
 rw [cntF,cntF]
 congr 1
 refine Ss fun x hx=>?_
 have:=ht x hx
 simp only [decide_eq_true (show x<=g from this),decide_eq_true (show x<=k by omega)]
theorem zc {l:List Int} {f g:Int} (ht:∀ x∈l,x < f):cntF l f g=0:=by
 rw [cntF,List.length_eq_zero_iff,List.filter_eq_nil_iff]
 intro x hx
 have:=ht x hx
 simp only [Ru,decide_eq_true_eq]
 omega
def C_ (side:Int) (now:Int) (ns:List Int):List LetterD->List Int
 |[]=>ns
 |x::l=>C_ side now (mC ns (mD side side x) now) l
theorem xb {side now:Int}:∀ {l:List LetterD} {ns:List Int},AU l->C_ side now ns l=ns
 |[],ns,h=>rfl
 |x::l,ns,h=>by
  rw [C_,ES (h x zP),lr]
  exact xb fun y hy=>h y (by simp [hy])
theorem Da {ns:List Int} {e:EndD} {r:EndD×List LetterD} {side:Int} (h:AnsI ns e) (ht:C8 e r) (hy:YoungE r.1):AnsI (C_ side r.1.now ns r.2) r.1:=by
 have hcur:=h.y.cur
 rcases ht with⟨h1,h2,h3⟩|⟨h1,h2,h3,y,h4⟩|⟨h1,h2,h3⟩
 ·rw [xb h3]
  exact⟨hy,by rw [h1];exact h.t,by rw [h1,h2];exact h.i,by rw [h1];exact h.j⟩
 ·rw [h4,C_,C_,h1]
  have hc:∀ {l:List Int},AnsI l e->(∀ x∈ns,x∈l)->(l=ns\/l=ns++[e.now])->AnsI l r.1\/True:=fun _ _ _=>.inr trivial
  rcases (show mC ns (mD side side y) e.now=ns\/mC ns (mD side side y) e.now=ns++[e.now] by rw [mC];split;exact .inr rfl;exact .inl rfl) with e1|e1
  ·rw [e1]
   refine⟨hy,by rw [h1];exact h.t,fun f hf=>?_,by rw [h1];exact h.j⟩
   rw [h1] at hf⊢
   have:=h.i f hf
   rw [h3]
   dsimp only
   omega
  rw [e1]
  refine⟨hy,fun x hx=>?_,fun f hf=>?_,fun f g hf hg=>?_⟩
  ·rw [h1]
   rcases Rz.1 hx with hx|hx
   ·exact h.t x hx
   rw [Rw.1 hx];have:=h.y.now;omega
  ·rw [h1] at hf⊢
   have:=h.i f hf
   rw [C9,if_pos zO,h3]
   dsimp only
   omega
  rw [h1] at hg
  rw [C9]
  by_cases hgn:g=e.now
  ·subst hgn
   have:=h.i f hf
   rw [if_pos zO]
   omega
  have:=h.j f g hf hg
  rw [if_neg zO]
  omega
 rw [xb h3]
 refine⟨hy,fun x hx=>by have:=h.t x hx;rw [h1];omega,fun f hf=>?_,fun f g hf hg=>?_⟩
 ·rw [h1] at hf⊢
  rw [h2]
  dsimp only
  by_cases hfn:f<=e.now
  ·have:=h.i f hfn
   rw [GJ (g:=e.now) (fun x hx=>(h.t x hx).2) zO]
   omega
  rw [zc fun x hx=>by have:=h.t x hx;omega]
  omega
 rw [h1] at hg
 by_cases hfn:f<=e.now
 ·by_cases hgn:g<=e.now
  ·exact h.j f g hf hgn
  have:=h.i f hfn
  rw [GJ (g:=e.now) (fun x hx=>(h.t x hx).2) zO]
  omega
 rw [zc fun x hx=>by have:=h.t x hx;omega]
 omega
structure AnsW (w:WorldD):Prop where
 a:AnsI w.answersA w.a
 b:AnsI w.answersB w.b
theorem zd {side:Int} {w:WorldD} {x:LetterD}:(br side w x).answersA=mC w.answersA (mD side 1 x) w.a.now/\(br side w x).answersB=mC w.answersB (mD side 2 x) w.b.now:=by
 rw [br];split<;>exact⟨rfl,rfl⟩
theorem xc:∀ {l:List LetterD} {w:WorldD},(az 1 w l).answersA=C_ 1 w.a.now w.answersA l/\(az 1 w l).answersB=w.answersB
 |[],w=>⟨rfl,rfl⟩
 |x::l,w=>by
  obtain⟨h1,h2⟩:=xc (l:=l) (w:=br 1 w x)
  obtain⟨g1,g2⟩:=zd (side:=1) (w:=w) (x:=x)
  have ge:=(iy (side:=1) (w:=w) (x:=x)).1
  rw [show az 1 w (x::l)=az 1 (br 1 w x) l from rfl,h1,h2,g1,g2,ge,Aj (side:=1) (k:=2) zO,lr]
  exact⟨rfl,rfl⟩
theorem xd:∀ {l:List LetterD} {w:WorldD},(az 2 w l).answersB=C_ 2 w.b.now w.answersB l/\(az 2 w l).answersA=w.answersA
 |[],w=>⟨rfl,rfl⟩
 |x::l,w=>by
  obtain⟨h1,h2⟩:=xd (l:=l) (w:=br 2 w x)
  obtain⟨g1,g2⟩:=zd (side:=2) (w:=w) (x:=x)
  have ge:=(iy (side:=2) (w:=w) (x:=x)).2.1
  rw [show az 2 w (x::l)=az 2 (br 2 w x) l from rfl,h1,h2,g1,g2,ge,Aj (side:=2) (k:=1) zO,lr]
  exact⟨rfl,rfl⟩
theorem ze {w w':WorldD} {s:Int} {r:EndD×List LetterD} (hs:s=1\/s=2) (h:AnsW w) (ht:C8 (bJ w s) r) (hy:YoungE r.1) (ea:w'.a=w.a) (eb:w'.b=w.b) (e1:w'.answersA=w.answersA) (e2:w'.answersB=w.answersB):
  AnsW (az s (aJ w' s r.1) r.2):=by
 rcases hs with rfl|rfl
 ·rw [bJ,if_pos rfl] at ht
  obtain⟨p1,p2⟩:=xc (l:=r.2) (w:=aJ w' 1 r.1)
  obtain⟨q1,q2,_⟩:=bH (side:=1) (l:=r.2) (w:=aJ w' 1 r.1)
  rw [aJ,if_pos rfl] at*
  refine⟨?_,?_⟩
  ·rw [p1,q1];dsimp only;rw [e1];exact Da h.a ht hy
  rw [p2,q2];dsimp only;rw [e2,eb];exact h.b
 rw [bJ,if_neg zO,if_pos rfl] at ht
 obtain⟨p1,p2⟩:=xd (l:=r.2) (w:=aJ w' 2 r.1)
 obtain⟨q1,q2,_⟩:=bH (side:=2) (l:=r.2) (w:=aJ w' 2 r.1)
 rw [aJ,if_neg zO] at*
 refine⟨?_,?_⟩
 ·rw [p2,q1];dsimp only;rw [e1,ea];exact h.a
 rw [p1,q2];dsimp only;rw [e2];exact Da h.b ht hy
theorem tJ {w:WorldD} {s:Int} (hs:s=1\/s=2) (h:AnsW w):YoungE (bJ w s):=by
 rcases hs with rfl|rfl
 ·rw [bJ,if_pos rfl];exact h.a.y
 rw [bJ,if_neg zO,if_pos rfl];exact h.b.y
theorem Fq {w:WorldD} {x:LetterD} (h:AnsW w):AnsW (ed w x):=by
 rcases gr x.to with h0|h0
 ·rw [ed,if_pos h0];exact h
 obtain⟨t1,t2⟩:=Iz (x:=x) (tJ h0 h)
 rw [ed,if_neg zO,iZ,if_pos h0]
 exact ze h0 h t1 t2 rfl rfl rfl rfl
theorem iE {a:ActD} (h:bG a=true):a.side=1\/a.side=2:=by
 simp only [bG,dJ,Ru,decide_eq_true_eq] at h
 omega
theorem sv (w:WorldD) (a:ActD):(eB w a).a=w.a/\(eB w a).b=w.b/\(eB w a).answersA=w.answersA/\(eB w a).answersB=w.answersB:=by
 unfold eB e7 cL;repeat' split
 all_goals exact⟨rfl,rfl,rfl,rfl⟩
theorem Fr {w:WorldD} {a:ActD} (h:AnsW w):AnsW (dy w a).1:=by
 have ha:∀ b:List LetterD,AnsW { w with bag:=b }:=fun b=>⟨h.a,h.b⟩
 unfold dy;split
 ·rename_i hok
  have hs:=iE hok
  split
  ·unfold aU;split
   ·exact h
   obtain⟨t1,t2⟩:=IB (a:=a) (tJ hs h)
   obtain⟨s1,s2,s3,s4⟩:=sv w a
   exact ze hs h t1 t2 s1 s2 s3 s4
  unfold bq;repeat' split
  all_goals first|exact h|exact Fq (ha _)|exact ha _
 exact h
theorem IC {x f t:Int} (hx:0<=x/\x<=1000000000) (hf:0<=f/\f<=1000000000) (ht:1<=t/\t<=1000):JW x f t=(decide (f<=x) && decide (x<=f+t - 1)):=by
 rw [JW]
 by_cases h:f<=x
 ·rw [decide_eq_true h,Sr,Sr]
  simp only [IntKind.wrap_u64]
  congr 1
  apply propext
  constructor<;>intro _<;>omega
 rw [decide_eq_false h,SK,SK]
theorem GK {l:List Int} {f t:Int} (hl:∀ x∈l,0<=x/\x<=1000000000) (hf:0<=f/\f<=1000000000) (ht:1<=t/\t<=1000):JX l f t=cntF l f (f+t - 1):=by
 rw [JX,cntF]
 congr 1
 exact Ss fun x hx=>IC (hl x hx) hf ht
theorem tK {l:List Int} {t s:Int}:∀ {m:List Int} {j k:Nat},j<=k->(∀ f∈m,JX l f s<=JX l f t)->rJ l s j m<=rJ l t k m
 |[],j,k,h,_=>h
 |f::r,j,k,h,hm=>by
  rw [rJ,rJ]
  exact tK (by have:=hm f zP;omega) fun g hg=>hm g (by simp [hg])
theorem ID {l:List Int} {f g k:Int} (h:g<=k):cntF l f g<=cntF l f k:=by
 rw [cntF,cntF]
 refine List.Sublist.length_le ?_
 rw [show (l.filter fun x=>decide (f<=x) && decide (x<=g))=(l.filter fun x=>decide (f<=x) && decide (x<=k)).filter fun x=>decide (x<=g) by
  rw [List.filter_filter]
  refine Ss fun x _=>?_
  by_cases h1:x<=g
  ·simp [h1,show x<=k by omega]
  simp [h1]]
 exact Sl
theorem AnsI.big {l:List Int} {e:EndD} (h:AnsI l e):∀ x∈l,0<=x/\x<=1000000000:=fun x hx=>by have:=h.t x hx;have:=h.y.now;omega
theorem AnsI.one {l:List Int} {e:EndD} (h:AnsI l e) {t:Int} (ht:1<=t/\t<=1000):Gr l 1<=Gr l t:=by
 rw [Gr,Gr]
 by_cases hl:l.length<=300
 ·rw [if_pos ⟨by decide,hl⟩,if_pos ⟨by simp only [dJ,Ru,decide_eq_true_eq];exact ht,hl⟩]
  refine tK (Sn _) fun f hf=>?_
  rw [GK h.big (h.big f hf) zO,GK h.big (h.big f hf) ht]
  exact ID zO
 rw [if_neg (fun hc=>hl hc.2)];exact SF _
theorem YoungE.fresh {e:EndD} (h:YoungE e):fresh e=true:=by
 rw [Go.Proofs.YtdiiopjaebnmfaaGreatDoor.fresh,RI]
 intro y hy
 have h1:=h.halfs y hy
 have h2:=h.now
 rw [NB,decide_eq_false zO,Bool.false_or,RK,decide_eq_false_iff_not]
 simp only [IntKind.wrap_u64]
 omega
def N9 (n:Int):Prop:=0<=n/\n<=1000000000
theorem KU {n:Int}:eg n=true↔N9 n:=by simp [eg,N9]
theorem df {n a b:Int}:dJ n a b=true↔a<=n/\n<=b:=by simp [dJ]
def RN (r:RoadD):Prop:=N9 r.own/\N9 r.far/\N9 r.port
theorem nA {r:RoadD}:vr r=true↔RN r:=by simp [vr,RN,KU,and_assoc]
theorem dW {a b:RoadD}:eV a b=true↔a=b:=⟨rR,fun h=>by subst h;simp [eV]⟩
theorem zf {α:Type} {p:α->Bool}:∀ {l:List α} {k j:Nat},fy p k l=((k+j:Nat):Int)↔∃ h:j < l.length,p l[j]=true/\∀ (i:Nat) (hi:i < j),p (l[i]' zO)=false
 |[],k,j=>by
  rw [fy]
  constructor
  ·intro h;omega
  rintro⟨h,_⟩;simp at h
 |a::r,k,j=>by
  rw [fy]
  by_cases hp:p a=true
  ·rw [if_pos hp]
   constructor
   ·intro h
    obtain rfl:j=0:=zO
    exact⟨zP,hp,fun i hi=>by omega⟩
   rintro⟨h,h1,h2⟩
   rcases j with _|j
   ·simp
   have:=h2 0 zO
   simp only [Sf] at this
   rw [hp] at this
   cases this
  rw [if_neg hp]
  have hp':p a=false:=by simpa using hp
  rcases j with _|j
  ·constructor
   ·intro h
    rcases pT (p:=p) (l:=r) (k:=k+1) with h'|h'<;>omega
   rintro⟨h,h1,_⟩
   simp only [Sf] at h1
   exact absurd h1 hp
  rw [show k+(j+1)=(k+1)+j by omega,zf (l:=r)]
  constructor
  ·rintro⟨h,h1,h2⟩
   refine⟨by simp;omega,by simpa using h1,fun i hi=>?_⟩
   rcases i with _|i
   ·simpa using hp'
   simpa using h2 i zO
  rintro⟨h,h1,h2⟩
  refine⟨by simpa using h,by simpa using h1,fun i hi=>?_⟩
  have:=h2 (i+1) zO
  simpa using this
theorem jm {α:Type} {p:α->Bool} {l:List α} {j:Nat}:jE p l=(j:Int)↔∃ h:j < l.length,p l[j]=true/\∀ (i:Nat) (hi:i < j),p (l[i]' zO)=false:=by
 have:=zf (p:=p) (l:=l) (k:=0) (j:=j)
 rw [Nat.zero_add] at this
 exact this
theorem zg {α:Type} {p:α->Bool}:∀ {l:List α} {k:Nat},fy p k l < 0↔∀ x∈l,p x=false
 |[],k=>by simp [fy]
 |a::r,k=>by
  rw [fy]
  by_cases hp:p a=true
  ·rw [if_pos hp]
   constructor
   ·intro h;omega
   intro h;rw [h a zP] at hp;cases hp
  rw [if_neg hp,zg (l:=r)]
  constructor
  ·intro h x hx
   rcases RR.1 hx with rfl|hx
   ·simpa using hp
   exact h x hx
  intro h x hx;exact h x (RY _ hx)
theorem sw {α:Type} {p:α->Bool} {l:List α}:jE p l < 0↔∀ x∈l,p x=false:=zg
theorem nB {α:Type} {p:α->Bool} {l:List α} (h:0<=jE p l):∃ n:Nat,jE p l=(n:Int):=⟨(jE p l).toNat,zO⟩
theorem nC {α:Type} (l:List α) (n:Nat):(l.take n++l.drop (n+1)).Sublist l:=by
 rw [<-List.eraseIdx_eq_take_drop_succ]
 exact List.eraseIdx_sublist ..
def AdR (a b:AddrD):Prop:=a.id < b.id/\¬ a.addr=b.addr
def AdE (a:AddrD):Prop:=(0<=a.id/\a.id<=255)/\1<=a.addr/\a.addr<=65535
structure AdOk (l:List AddrD):Prop where
 len:l.length<=6
 el:∀ a∈l,AdE a
 pw:l.Pairwise AdR
theorem mR {l:List AddrD}:dK l=true↔AdOk l:=by
 simp only [dK,Ru,decide_eq_true_eq]
 constructor
 ·rintro⟨h1,h2⟩
  have he:∀ (j:Nat) (hj:j < l.length),AdE l[j]/\(∀ i,i+1=j->(NF l i).id < l[j].id)/\∀ b∈l.take j,¬ l[j].addr=b.addr:=by
   intro j hj
   have:=jf h2 hj
   simp only [mr,oK hj,Ru,df,RT,beq_iff_eq,decide_eq_true_eq,RI,RK,beq_eq_false_iff_ne] at this
   obtain⟨⟨⟨a1,a2⟩,a3⟩,a4⟩:=this
   refine⟨⟨a1,a2⟩,fun i hi=>?_,a4⟩
   rcases a3 with a3|a3
   ·omega
   subst hi;simpa using a3
  have hid:∀ (j i:Nat) (hj:j < l.length) (hi:i < j),l[i].id < l[j].id:=by
   intro j
   induction j with
   |zero=>intro i hj hi;omega
   |succ j ih=>
    intro i hj hi
    have h3:=(he (j+1) hj).2.1 j rfl
    rw [oK zO] at h3
    by_cases hij:i=j
    ·subst hij;exact h3
    have:=ih i zO zO;omega
  refine⟨zO,fun a ha=>?_,?_⟩
  ·obtain⟨j,hj,rfl⟩:=RC ha
   exact (he j hj).1
  rw [RA]
  intro i j hi hj hij
  refine⟨hid j i hj hij,fun hc=>?_⟩
  refine (he j hj).2.2 l[i] ?_ hc.symm
  rw [RS]
  exact⟨i,zO,rfl⟩
 rintro⟨h1,h2,h3⟩
 rw [RA] at h3
 refine⟨zO,e9 fun j hj=>?_⟩
 have hm:=h2 l[j] (Rv hj)
 simp only [mr,oK hj,Ru,df,RT,beq_iff_eq,decide_eq_true_eq,RI,RK,beq_eq_false_iff_ne]
 refine⟨⟨⟨hm.1,hm.2⟩,?_⟩,fun b hb=>?_⟩
 ·rcases SD j with h0|h0
  ·exact .inl h0
  refine .inr ?_
  rw [oK zO]
  exact (h3 (j - 1) j zO hj zO).1
 rw [RS] at hb
 obtain⟨i,hi,rfl⟩:=hb
 exact fun hc=>(h3 i j zO hj zO).2 hc.symm
theorem AdOk.sub {l m:List AddrD} (h:AdOk l) (s:m.Sublist l):AdOk m:=⟨Sa s.length_le h.len,fun a ha=>h.el a (s.subset ha),h.pw.sublist s⟩
theorem AdOk.drop {l:List AddrD} {n:Int} (h:AdOk l):AdOk (bN l n).1:=by
 rw [bN];split
 ·exact h
 exact h.sub (nC l _)
theorem AdOk.put {l:List AddrD} {a:AddrD} (h:AdOk l):AdOk (bi l a).1:=by
 rw [bi];split
 ·rename_i hk;exact mR.1 hk
 exact h
theorem AdOk.pt {l m:List AddrD} (h:AdOk l) (hl:m.length=l.length) (hp:∀ (i:Nat) (h1:i < m.length) (h2:i < l.length),m[i].id=l[i].id/\m[i].addr=l[i].addr):AdOk m:=by
 refine⟨by rw [hl];exact h.len,fun a ha=>?_,?_⟩
 ·obtain⟨j,hj,rfl⟩:=RC ha
  obtain⟨e1,e2⟩:=hp j hj zO
  have:=h.el l[j] (Rv _)
  rw [AdE,e1,e2];exact this
 have hq:=h.pw
 rw [RA] at hq⊢
 intro i j hi hj hij
 obtain⟨e1,e2⟩:=hp i hi zO
 obtain⟨f1,f2⟩:=hp j hj zO
 have:=hq i j zO zO hij
 rw [AdR,e1,e2,f1,f2];exact this
theorem g0 {l:List AddrD} {n:Int} {a:AddrD} (h:a∈(bN l n).1):a∈l:=by
 rw [bN] at h;split at h
 ·exact h
 exact (nC l _).subset h
theorem gz {l:List AddrD} {a b:AddrD} (h:b∈(bi l a).1):b=a\/b∈l:=by
 rw [bi] at h;split at h
 ·dsimp only at h
  rw [cC] at h;split at h
  ·rcases RB h with h|h
   ·exact .inr h
   exact .inl h
  rcases Rz.1 h with h|h
  ·rcases Rz.1 h with h|h
   ·exact .inr (R6 h)
   exact .inl (Rw.1 h)
  exact .inr (Sj h)
 exact .inr h
structure IdOk (l:List Int) (t:List AddrD):Prop where
 pw:l.Pairwise fun a b=>a < b
 el:∀ n∈l,(0<=n/\n<=255)/\∀ a∈t,¬ a.id=n
theorem j9 {l:List Int} {n:Nat} (h:n < l.length):l.getD n 0=l[n]:=by rw [R9,Sb h];rfl
theorem oX {l:List AddrD} {n:Int}:aT l n < 0↔∀ a∈l,¬ a.id=n:=by
 rw [aT,sw]
 simp
theorem IE {l:List Int} {t:List AddrD}:s_ l t=true↔IdOk l t:=by
 simp only [s_,Ru]
 constructor
 ·rintro⟨h1,h2⟩
  have hc:∀ (j:Nat) (hj:j+1 < l.length),l[j] < l[j+1]:=by
   intro j hj
   have:=jf h1 hj
   simp only [jG,RT,beq_iff_eq,decide_eq_true_eq,So,j9 hj,j9 (show j < l.length by omega)] at this
   rcases this with h|h
   ·omega
   exact h
  have hid:∀ (j i:Nat) (hj:j < l.length) (hi:i < j),l[i] < l[j]:=by
   intro j
   induction j with
   |zero=>intro i hj hi;omega
   |succ j ih=>
    intro i hj hi
    have h3:=hc j hj
    by_cases hij:i=j
    ·subst hij;exact h3
    have:=ih i zO zO;omega
  refine⟨?_,fun n hn=>?_⟩
  ·rw [RA]
   intro i j hi hj hij
   exact hid j i hj hij
  obtain⟨j,hj,rfl⟩:=RC hn
  have:=jf h2 hj
  simp only [tY,Ru,df,decide_eq_true_eq,j9 hj] at this
  exact⟨this.1,oX.1 this.2⟩
 rintro⟨h1,h2⟩
 rw [RA] at h1
 refine⟨e9 fun j hj=>?_,e9 fun j hj=>?_⟩
 ·simp only [jG,RT,beq_iff_eq,decide_eq_true_eq]
  rcases SD j with h0|h0
  ·exact .inl h0
  refine .inr ?_
  rw [j9 hj,j9 (show j - 1 < l.length by omega)]
  exact h1 (j - 1) j zO hj zO
 have:=h2 l[j] (Rv hj)
 simp only [tY,Ru,df,decide_eq_true_eq,j9 hj]
 exact⟨this.1,oX.2 this.2⟩
theorem GL {α:Type} {p:α->Bool}:∀ (l:List α),l.take (l.takeWhile p).length=l.takeWhile p
 |[]=>rfl
 |a::r=>by
  rw [R1];split
  ·rw [RZ,List.take_succ_cons,GL r]
  rfl
theorem GM {α:Type} {p:α->Bool}:∀ (l:List α),l.drop (l.takeWhile p).length=l.dropWhile p
 |[]=>rfl
 |a::r=>by
  rw [R1,SB];split
  ·rename_i h
   rw [RZ,List.drop_succ_cons,GM r]
  rfl
theorem KV {α:Type} {p:α->Bool}:∀ (l:List α),∀ x∈l.takeWhile p,p x=true
 |[],x,h=>by simp at h
 |a::r,x,h=>by
  rw [R1] at h;split at h
  ·rename_i hp
   rcases RR.1 h with rfl|h
   ·exact hp
   exact KV r x h
  simp at h
theorem GN {α:Type} {p:α->Bool}:∀ {l r:List α} {y:α},l.dropWhile p=y::r->p y=false
 |[],r,y,h=>by simp at h
 |a::l,r,y,h=>by
  rw [SB] at h;split at h
  ·exact GN h
  rename_i hp
  injection h with h1 _
  rw [<-h1];simpa using hp
theorem Qd {l:List Int} {n:Int}:∀ x∈l.take (kF l n),x < n:=by
 intro x hx
 rw [kF,GL] at hx
 simpa using KV l x hx
theorem Qe {l:List Int} {n:Int} (hp:l.Pairwise fun a b=>a < b):∀ x∈l.drop (kF l n),n<=x:=by
 have e:l.drop (kF l n)=l.dropWhile fun a=>decide (a < n):=by rw [kF,GM]
 have hq:(l.drop (kF l n)).Pairwise fun a b=>a < b:=hp.sublist (Su _ _)
 rw [e] at hq⊢
 cases hd:l.dropWhile fun a=>decide (a < n) with
 |nil=>simp
 |cons y r=>
  rw [hd] at hq
  have hy:¬ y < n:=by simpa using GN hd
  intro x hx
  rcases RR.1 hx with rfl|hx
  ·omega
  have:=(Sd.1 hq).1 x hx;omega
theorem KW {l:List Int} {n x:Int} (h:x∈iQ l n):x=n\/x∈l:=by
 rw [iQ] at h;split at h
 ·exact .inr h
 rcases Rz.1 h with h|h
 ·rcases Rz.1 h with h|h
  ·exact .inr (R6 h)
  exact .inl (Rw.1 h)
 exact .inr (Sj h)
theorem Db {l:List Int} {n:Int}:n∈iQ l n:=by
 rw [iQ];split
 ·rename_i h
  obtain⟨h1,h2⟩:=h
  rw [j9 h1] at h2
  rw [<-h2];exact Rv _
 simp
theorem Dc {l:List Int} {n x:Int} (h:x∈l):x∈iQ l n:=by
 rw [iQ];split
 ·exact h
 have:=R5 (kF l n) l
 rw [<-this] at h
 rcases Rz.1 h with h|h
 ·exact RH _ (RH _ h)
 exact Si _ h
theorem M8 {l:List Int} {n:Int} (hp:l.Pairwise fun a b=>a < b):(iQ l n).Pairwise fun a b=>a < b:=by
 rw [iQ];split
 ·exact hp
 rename_i hn
 have h1:=Qd (l:=l) (n:=n)
 have h2:=Qe (n:=n) hp
 have h3:∀ x∈l.drop (kF l n),n < x:=by
  intro x hx
  have hx':=h2 x hx
  by_cases he:x=n
  ·exfalso
   have hq:(l.drop (kF l n)).Pairwise fun a b=>a < b:=hp.sublist (Su _ _)
   by_cases hl:kF l n < l.length
   ·rw [List.drop_eq_getElem_cons hl] at hx hq h2
    rcases RR.1 hx with hx|hx
    ·exact hn ⟨hl,by rw [j9 hl,<-hx,he]⟩
    have:=(Sd.1 hq).1 x hx
    have:=h2 l[kF l n] (RW ..)
    omega
   rw [List.drop_eq_nil_of_le zO] at hx;simp at hx
  omega
 rw [RP,RP]
 refine⟨⟨hp.sublist (List.take_sublist _ _),RL ..,fun a ha b hb=>?_⟩,hp.sublist (Su _ _),fun a ha b hb=>?_⟩
 ·rw [Rw.1 hb];exact h1 a ha
 rcases Rz.1 ha with ha|ha
 ·have:=h1 a ha;have:=h3 b hb;omega
 rw [Rw.1 ha];exact h3 b hb
theorem IdOk.drop {l:List Int} {t:List AddrD} {n:Int} (h:IdOk l t) (ht:AdOk t) (hn:∃ a∈t,a.id=n):IdOk (iQ l n) (bN t n).1:=by
 obtain⟨q,hq,hqn⟩:=hn
 refine⟨M8 h.pw,fun x hx=>?_⟩
 rcases KW hx with rfl|hx
 ·refine⟨by have:=(ht.el q hq).1;omega,fun a ha=>?_⟩
  have h0:¬ aT t x < 0:=fun hc=>oX.1 hc q hq hqn
  rw [bN,if_neg h0] at ha
  obtain⟨k,hk⟩:=nB (show 0<=jE (fun a=>a.id == x) t by rw [aT] at h0;omega)
  obtain⟨hkl,hk1,_⟩:=jm.1 hk
  rw [aT,hk] at ha
  dsimp only at ha
  rw [Ry] at ha
  have hpw:=ht.pw
  rw [RA] at hpw
  simp only [beq_iff_eq] at hk1
  rcases Rz.1 ha with ha|ha
  ·rw [RS] at ha
   obtain⟨i,hi,rfl⟩:=ha
   have:=(hpw i k zO hkl zO).1
   omega
  rw [R_] at ha
  obtain⟨i,hi,rfl⟩:=ha
  have:=(hpw k (k+1+i) hkl zO zO).1
  omega
 have:=h.el x hx
 exact⟨this.1,fun a ha=>this.2 a (g0 ha)⟩
theorem IdOk.put {l:List Int} {t:List AddrD} {a:AddrD} (h:IdOk l t) (hn:¬ a.id∈l):IdOk l (bi t a).1:=by
 refine⟨h.pw,fun x hx=>?_⟩
 have:=h.el x hx
 refine⟨this.1,fun b hb=>?_⟩
 rcases gz hb with rfl|hb
 ·exact fun hc=>hn (hc▸hx)
 exact this.2 b hb
def HaE (h:HalfD):Prop:=RN h.road/\N9 h.theirs/\N9 h.mine/\N9 h.give/\N9 h.take/\N9 h.till
structure HaOk (l:List HalfD):Prop where
 len:l.length<=4
 el:∀ h∈l,HaE h
 pw:l.Pairwise fun a b=>¬ a.road=b.road
theorem mS {l:List HalfD}:eW l=true↔HaOk l:=by
 simp only [eW,Ru,decide_eq_true_eq]
 have hat:∀ (j:Nat) (hj:j < l.length),bU l l[j].road=(j:Int)↔∀ (i:Nat) (hi:i < j),¬ l[i].road=l[j].road:=by
  intro j hj
  rw [bU,jm]
  constructor
  ·rintro⟨_,_,h⟩ i hi
   have:=h i hi
   intro hc
   rw [hc,dW.2 rfl] at this
   cases this
  intro h
  exact⟨hj,dW.2 rfl,fun i hi=>by
   cases hq:eV l[i].road l[j].road with
   |false=>rfl
   |true=>exact absurd (dW.1 hq) (h i hi)⟩
 have hel:∀ (j:Nat) (hj:j < l.length),rM l j=true↔HaE l[j]/\bU l l[j].road=(j:Int):=by
  intro j hj
  simp only [rM,JZ hj,Ru,nA,Sg,Sk,KU,beq_iff_eq,and_true,HaE]
 constructor
 ·rintro⟨h1,h2⟩
  have hu:=fun (j:Nat) (hj:j < l.length)=>(hel j hj).1 (jf h2 hj)
  refine⟨zO,fun h hh=>?_,?_⟩
  ·obtain⟨j,hj,rfl⟩:=RC hh
   exact (hu j hj).1
  rw [RA]
  intro i j hi hj hij
  exact (hat j hj).1 (hu j hj).2 i hij
 rintro⟨h1,h2,h3⟩
 rw [RA] at h3
 exact⟨zO,e9 fun j hj=>(hel j hj).2 ⟨h2 _ (Rv hj),(hat j hj).2 fun i hi=>h3 i j zO hj hi⟩⟩
theorem HaOk.sub {l m:List HalfD} (h:HaOk l) (s:m.Sublist l):HaOk m:=⟨Sa s.length_le h.len,fun a ha=>h.el a (s.subset ha),h.pw.sublist s⟩
theorem HaOk.drop {l:List HalfD} {r:RoadD} (h:HaOk l):HaOk (bV l r):=by
 rw [bV];split
 ·exact h
 exact h.sub (nC l _)
theorem HaOk.young {l:List HalfD} {n:Int} (h:HaOk l):HaOk (ff l n):=h.sub Sl
def SuE (s:SubD):Prop:=(1<=s.state/\s.state<=4)/\RN s.road/\N9 s.mine/\N9 s.theirs/\N9 s.give/\N9 s.take/\N9 s.tries
structure SuOk (l:List SubD):Prop where
 el:∀ s∈l,SuE s
 pw:l.Pairwise fun a b=>a.state=4\/b.state=4\/¬ a.road=b.road
theorem sx {l:List SubD} {r:RoadD}:bE l r < 0↔∀ s∈l,s.state=4\/¬ s.road=r:=by
 rw [bE,sw]
 refine forall_congr' fun s=>forall_congr' fun hs=>?_
 by_cases h1:s.state=4
 ·simp [h1]
 by_cases h2:s.road=r
 ·subst h2;simp [h1,dW]
 have:eV s.road r=false:=by
  cases hq:eV s.road r with
  |false=>rfl
  |true=>exact absurd (dW.1 hq) h2
 simp [this,h2]
theorem sy {l:List SubD} {r:RoadD} {n:Nat}:bE l r=(n:Int)↔∃ h:n < l.length,¬ l[n].state=4/\l[n].road=r/\∀ (i:Nat) (hi:i < n),l[i].state=4\/¬ l[i].road=r:=by
 rw [bE,jm]
 refine exists_congr fun h=>?_
 have hp:∀ s:SubD,(s.state != 4 && eV s.road r)=false↔s.state=4\/¬ s.road=r:=by
  intro s
  by_cases h1:s.state=4
  ·simp [h1]
  cases hq:eV s.road r with
  |false=>simp [h1,show ¬ s.road=r from fun hc=>by rw [dW.2 hc] at hq;cases hq]
  |true=>simp [h1,dW.1 hq]
 simp only [hp]
 rw [<-and_assoc]
 refine and_congr_left fun _=>?_
 simp [dW]
theorem Fs {l:List SubD}:iW (ko l) l.length=true↔SuOk l:=by
 have hel:∀ (j:Nat) (hj:j < l.length),ko l j=true↔SuE l[j]/\(l[j].state=4\/bE l l[j].road=(j:Int)):=by
  intro j hj
  simp only [ko,cd hj,Ru,df,nA,Sg,Sk,KU,beq_iff_eq,and_true,RT,SuE]
  constructor
  ·rintro⟨⟨⟨a,b⟩,c⟩,d⟩;exact⟨⟨a,b,c⟩,d⟩
  rintro⟨⟨a,b,c⟩,d⟩;exact⟨⟨⟨a,b⟩,c⟩,d⟩
 constructor
 ·intro h2
  have hu:=fun (j:Nat) (hj:j < l.length)=>(hel j hj).1 (jf h2 hj)
  refine⟨fun s hs=>?_,?_⟩
  ·obtain⟨j,hj,rfl⟩:=RC hs
   exact (hu j hj).1
  rw [RA]
  intro i j hi hj hij
  rcases (hu j hj).2 with h|h
  ·exact .inr (.inl h)
  obtain⟨_,_,_,h⟩:=sy.1 h
  rcases h i hij with h|h
  ·exact .inl h
  exact .inr (.inr h)
 rintro⟨h2,h3⟩
 rw [RA] at h3
 refine e9 fun j hj=>(hel j hj).2 ⟨h2 _ (Rv hj),?_⟩
 by_cases h4:l[j].state=4
 ·exact .inl h4
 refine .inr (sy.2 ⟨hj,h4,rfl,fun i hi=>?_⟩)
 rcases h3 i j zO hj hi with h|h|h
 ·exact .inl h
 ·exact absurd h h4
 exact .inr h
theorem SuOk.pt {l m:List SubD} (h:SuOk l) (hl:m.length=l.length) (hp:∀ (i:Nat) (h1:i < m.length) (h2:i < l.length),SuE m[i]/\m[i].road=l[i].road/\(l[i].state=4->m[i].state=4)):SuOk m:=by
 refine⟨fun s hs=>?_,?_⟩
 ·obtain⟨j,hj,rfl⟩:=RC hs
  exact (hp j hj zO).1
 have hq:=h.pw
 rw [RA] at hq⊢
 intro i j hi hj hij
 obtain⟨_,e1,e2⟩:=hp i hi zO
 obtain⟨_,f1,f2⟩:=hp j hj zO
 rcases hq i j zO zO hij with h|h|h
 ·exact .inl (e2 h)
 ·exact .inr (.inl (f2 h))
 rw [e1,f1];exact .inr (.inr h)
theorem SuOk.set {l:List SubD} {n:Nat} {s:SubD} (h:SuOk l) (hn:n < l.length) (hs:SuE s) (hr:s.road=l[n].road) (h4:l[n].state=4->s.state=4):SuOk (l.set n s):=by
 refine h.pt zP fun i h1 h2=>?_
 rw [RG]
 split
 ·rename_i e;subst e;exact⟨hs,hr,h4⟩
 exact⟨h.el _ (Rv h2),rfl,fun h=>h⟩
theorem SuOk.map {l:List SubD} {f:SubD->SubD} (h:SuOk l) (hf:∀ s∈l,SuE (f s)/\(f s).road=s.road/\(s.state=4->(f s).state=4)):SuOk (l.map f):=
 h.pt zP fun i h1 h2=>by rw [Sw];exact hf _ (Rv h2)
theorem SuOk.app {l:List SubD} {s:SubD} (h:SuOk l) (hs:SuE s) (hr:∀ x∈l,x.state=4\/¬ x.road=s.road):SuOk (l++[s]):=by
 refine⟨fun x hx=>?_,?_⟩
 ·rcases Rz.1 hx with hx|hx
  ·exact h.el x hx
  rw [Rw.1 hx];exact hs
 rw [RP]
 refine⟨h.pw,RL ..,fun a ha b hb=>?_⟩
 rw [Rw.1 hb]
 rcases hr a ha with h|h
 ·exact .inl h
 exact .inr (.inr h)
theorem SuE.st {s:SubD} {n:Int} (h:SuE s) (hn:1<=n/\n<=4):SuE { s with state:=n }:=⟨hn,h.2⟩
theorem SuOk.st4 {l:List SubD} {n:Nat} (h:SuOk l) (hn:n < l.length):SuOk (bB l n 4):=by
 rw [eO hn]
 exact h.set hn ((h.el _ (Rv hn)).st zO) rfl fun _=>rfl
structure OkE (e:EndD):Prop where
 side:1<=e.side/\e.side<=2
 state:0<=e.state/\e.state<=2
 pol:polOk e.policy=true
 own:AdOk e.own
 far:AdOk e.far
 halfs:HaOk e.halfs
 bucket:bucketOk e.bucket=true
 out:outOk e.out=true
 inp:piecesOk e.inp=true
 done:IdOk e.done e.own
 over:IdOk e.over e.far
 subs8:e.subs.length<=8
 nums:N9 e.key/\N9 e.peer/\N9 e.draw/\N9 e.now/\N9 e.pick
 subs:SuOk e.subs
theorem jn {e:EndD}:ax e=true↔OkE e:=by
 simp only [ax,Ru,df,mR,mS,IE,Fs,Sg,Sk,KU,decide_eq_true_eq,and_true]
 constructor
 ·rintro⟨⟨⟨⟨⟨⟨⟨⟨⟨⟨⟨⟨⟨a1,a2⟩,a3⟩,a4⟩,a5⟩,a6⟩,a7⟩,a8⟩,a9⟩,a10⟩,a11⟩,a12⟩,a13⟩,a14⟩
  exact⟨a1,a2,a3,a4,a5,a6,a7,a8,a9,a10,a11,zO,a13,a14⟩
 rintro⟨a1,a2,a3,a4,a5,a6,a7,a8,a9,a10,a11,a12,a13,a14⟩
 exact⟨⟨⟨⟨⟨⟨⟨⟨⟨⟨⟨⟨⟨a1,a2⟩,a3⟩,a4⟩,a5⟩,a6⟩,a7⟩,a8⟩,a9⟩,a10⟩,a11⟩,zO⟩,a13⟩,a14⟩
theorem jP {x:LetterD} (h:cO x=true):N9 x.frm/\N9 x.to/\N9 x.port/\N9 x.nonce/\N9 x.give/\N9 x.sgn/\N9 x.id/\N9 x.addr/\N9 x.pos:=by
 simp only [cO,dJ,iF,Sg,Sk,eg,Ru,decide_eq_true_eq,Bool.and_true] at h
 simp only [N9]
 omega
theorem HaOk.pt {l m:List HalfD} (h:HaOk l) (hl:m.length=l.length) (hp:∀ (i:Nat) (h1:i < m.length) (h2:i < l.length),HaE m[i]/\m[i].road=l[i].road):HaOk m:=by
 refine⟨by rw [hl];exact h.len,fun a ha=>?_,?_⟩
 ·obtain⟨j,hj,rfl⟩:=RC ha
  exact (hp j hj zO).1
 have hq:=h.pw
 rw [RA] at hq⊢
 intro i j hi hj hij
 rw [(hp i hi zO).2,(hp j hj zO).2]
 exact hq i j zO zO hij
theorem IdOk.pt {l:List Int} {t u:List AddrD} (h:IdOk l t) (hu:∀ a∈u,∃ b∈t,b.id=a.id):IdOk l u:=⟨h.pw,fun n hn=>⟨(h.el n hn).1,fun a ha=>by
 obtain⟨b,hb,e⟩:=hu a ha
 rw [<-e];exact (h.el n hn).2 b hb⟩⟩
theorem xe {b:BucketD} (h:bucketOk b=true):bucketOk (cK b).1=true:=by
 rw [cK];split
 ·rename_i hc
  simp only [bucketOk,Ru,df] at h⊢
  have:=hc.2
  omega
 exact h
theorem zh {b:BucketD} (h:bucketOk b=true):bucketOk (gV b)=true:=by
 rw [gV,if_pos h]
 simp only [bucketOk,Ru,df] at h⊢
 omega
theorem nD {o:OutD}:outOk o=true↔FineO o:=by
 refine⟨dp,fun h=>?_⟩
 obtain⟨h1,h2,h3,h4,h5⟩:=h
 simp only [outOk,eg,dJ,Ru,decide_eq_true_eq]
 rw [Ei zO]
 omega
theorem M9 {o:OutD} {n:Int} (h:outOk o=true) (hn:N9 n):outOk (came o n)=true:=by
 have F:=dp h
 obtain⟨h1,h2,h3,h4,h5⟩:=F
 rw [came];split
 ·rename_i hc
  obtain⟨_,c1,c2⟩:=hc
  rw [Ei zO] at c2
  rw [nD]
  refine⟨hn,h2,?_,?_⟩
  ·simp only [RE];omega
  simp only [RE];split<;>omega
 exact h
theorem xf {l:List Int} {n:Int}:oH l n=true↔n∈l:=by simp [oH]
theorem KX {l:List Int} {n:Int}:oH l n=false↔¬ n∈l:=by rw [<-xf];simp
theorem kK {l:List SubD} {r:RoadD} (h:0<=bE l r):∃ n:Nat,bE l r=(n:Int)/\∃ hn:n < l.length,¬ l[n].state=4/\l[n].road=r/\∀ (i:Nat) (hi:i < n),l[i].state=4\/¬ l[i].road=r:=by
 obtain⟨n,hn⟩:=nB h
 exact⟨n,hn,sy.1 hn⟩
theorem lE {l:List HalfD} {r:RoadD} (h:0<=bU l r):∃ n:Nat,bU l r=(n:Int)/\∃ hn:n < l.length,l[n].road=r:=by
 obtain⟨n,hn⟩:=nB h
 obtain⟨h1,h2,_⟩:=jm.1 hn
 exact⟨n,hn,h1,dW.1 h2⟩
theorem lF {l:List AddrD} {k:Int} (h:0<=aT l k):∃ n:Nat,aT l k=(n:Int)/\∃ hn:n < l.length,l[n].id=k:=by
 obtain⟨n,hn⟩:=nB h
 obtain⟨h1,h2,_⟩:=jm.1 hn
 exact⟨n,hn,h1,by simpa using h2⟩
theorem AX {e:EndD} {x:LetterD} (h:0<=iX e x):∃ n:Nat,iX e x=(n:Int)/\dH e x=(n:Int)/\∃ hn:n < e.subs.length,e.subs[n].state=3/\e.subs[n].take=x.sgn/\e.subs[n].road=roadOf x/\cO x=true:=by
 rcases nk e x with h0|⟨n,h1,h2,h3,_,h5⟩
 ·omega
 refine⟨n,h1,h2,h3,?_⟩
 rw [dH] at h2
 split at h2
 ·omega
 rename_i h6
 split at h2
 ·rename_i h7
  obtain⟨m,hm,hmn,_,hr,_⟩:=kK (show 0<=bE e.subs (roadOf x) by omega)
  have:m=n:=zO
  subst this
  rw [hm,Ry,cd hmn] at h7
  exact⟨h7.1,h7.2,hr,h5⟩
 omega
theorem nE {x:LetterD} (h:cO x=true):RN (roadOf x):=by
 obtain⟨h1,h2,h3,_⟩:=jP h
 exact⟨h2,h1,h3⟩
theorem lG {e:EndD} {x:LetterD} (h:OkE e) (hst:e.state=2):OkE (bO e x).1/\(bO e x).1.state=2:=by
 refine mF (Q:=fun r=>OkE r.1/\r.1.state=2) ⟨h,hst⟩ ?_ ?_ ?_ ?_ ?_ ?_ ?_ ?_ ?_ ?_ ?_ ?_
 ·unfold aV;split
  ·rename_i hk
   simp only [gO,Ru,decide_eq_true_eq] at hk
   omega
  exact⟨h,hst⟩
 ·unfold bC;split
  ·rename_i hk
   simp only [jI,Ru,decide_eq_true_eq] at hk
   omega
  exact⟨h,hst⟩
 ·unfold cj;split
  ·rename_i hk
   simp only [mu,Ru,decide_eq_true_eq,df] at hk
   obtain⟨⟨⟨⟨⟨⟨⟨⟨⟨k1,k2⟩,k3⟩,k4⟩,k5⟩,k6⟩,k7⟩,k8⟩,k9⟩,k10⟩:=hk
   have hd:N9 (e.draw+4):=⟨zO,zO⟩
   split
   ·rename_i hs
    simp only [fd,Ru,decide_eq_true_eq] at hs
    obtain⟨n,e1,hn,_⟩:=lE hs.1.1
    refine⟨⟨h.side,h.state,h.pol,h.own,h.far,?_,xe h.bucket,h.out,h.inp,h.done,h.over,h.subs8,h.nums,h.subs⟩,hst⟩
    dsimp only
    rw [p_,e1,Ry,eJ hn]
    refine h.halfs.pt zP fun i h1 h2=>?_
    rw [RG]
    have hel:=h.halfs.el _ (Rv h2)
    split
    ·rename_i e;subst e
     exact⟨⟨hel.1,hel.2.1,hel.2.2.1,hel.2.2.2.1,hel.2.2.2.2.1,by have:=h.nums.2.2.2.1;simp only [N9] at this⊢;omega⟩,rfl⟩
    exact⟨hel,rfl⟩
   refine⟨⟨h.side,h.state,h.pol,h.own,h.far,?_,xe h.bucket,h.out,h.inp,h.done,h.over,h.subs8,⟨h.nums.1,h.nums.2.1,hd,h.nums.2.2.2⟩,h.subs⟩,hst⟩
   dsimp only
   rw [bF];split
   ·rename_i hh;exact mS.1 hh
   exact h.halfs
  exact⟨h,hst⟩
 ·unfold aW;split
  ·rename_i hk
   simp only [rT,Ru,decide_eq_true_eq] at hk
   obtain⟨⟨⟨⟨⟨k1,k2⟩,k3⟩,k4⟩,k5⟩,k6⟩:=hk
   obtain⟨n,e1,hn,_,_,_⟩:=kK k4
   rw [e1,Ry,cd hn] at k5
   obtain⟨_,_,_,x1,x2,_⟩:=jP k2
   have hel:=h.subs.el _ (Rv hn)
   refine⟨⟨h.side,h.state,h.pol,h.own,h.far,h.halfs,h.bucket,h.out,h.inp,h.done,h.over,by dsimp only;rw [RF];exact h.subs8,h.nums,?_⟩,hst⟩
   dsimp only
   rw [e1,Ry,cd hn]
   exact h.subs.set hn ⟨by simp [eD],hel.2.1,hel.2.2.1,x1,x2,hel.2.2.2.2.2.1,by simp [eD,N9]⟩ rfl fun h4=>by omega
  exact⟨h,hst⟩
 ·unfold aF;split
  ·rename_i hk
   simp only [pZ,Ru,decide_eq_true_eq] at hk
   split
   ·rename_i ha
    simp only [tZ,Ru,decide_eq_true_eq] at ha
    obtain⟨i,e2,hi,_⟩:=lE ha.1.1
    have hel:=h.halfs.el _ (Rv hi)
    have hsu:SuE (gS (roadOf x) (p_ e x)):=by
     rw [p_,e2,Ry,eJ hi]
     exact⟨by simp [gS],nE hk.1.2,hel.2.2.1,hel.2.1,hel.2.2.2.1,hel.2.2.2.2.1,by simp [gS,N9]⟩
    refine⟨⟨h.side,h.state,h.pol,h.own,h.far,h.halfs.drop,h.bucket,h.out,h.inp,h.done,h.over,?_,h.nums,?_⟩,hst⟩
    ·dsimp only
     split<;>simp only [bB,RD,RF,RJ]<;>omega
    dsimp only
    split
    ·rename_i h0
     obtain⟨n,e1,hn,k1,k2,k3⟩:=kK h0
     rw [e1,Ry]
     refine (h.subs.st4 hn).app hsu fun y hy=>?_
     rw [eO hn] at hy
     obtain⟨j,hj,rfl⟩:=RC hy
     rw [RG]
     split
     ·exact .inl rfl
     rename_i hnj
     rw [RF] at hj
     have hq:=h.subs.pw
     rw [RA] at hq
     have:e.subs[j].state=4\/¬ e.subs[j].road=e.subs[n].road:=by
      rcases Sp hnj with hl|hl
      ·rcases hq n j hn hj hl with q|q|q
       ·exact absurd q k1
       ·exact .inl q
       exact .inr fun hc=>q hc.symm
      rcases hq j n hj hn hl with q|q|q
      ·exact .inl q
      ·exact absurd q k1
      exact .inr q
     rw [k2] at this
     exact this
    rename_i h0
    refine h.subs.app hsu fun y hy=>?_
    exact sx.1 (show bE e.subs (roadOf x) < 0 by omega) y hy
   split<;>exact⟨h,hst⟩
  exact⟨h,hst⟩
 ·unfold bg;dsimp only;split
  ·rename_i hk
   simp only [lQ,Ru,decide_eq_true_eq] at hk
   obtain⟨⟨⟨⟨k1,k2⟩,k3⟩,k4⟩,k5⟩:=hk
   obtain⟨n,e1,hn,_,_,_⟩:=kK k3
   rw [e1,Ry,cd hn] at k4
   refine⟨⟨h.side,h.state,h.pol,h.own,h.far,h.halfs,h.bucket,h.out,h.inp,h.done,h.over,by dsimp only;rw [bB,RF];exact h.subs8,h.nums,?_⟩,hst⟩
   dsimp only
   rw [e1,Ry,eO hn]
   exact h.subs.set hn ((h.subs.el _ (Rv hn)).st zO) rfl fun h4=>by omega
  exact⟨h,hst⟩
 ·unfold cF;split
  ·rename_i hk
   simp only [je,Ru,RK,KX] at hk
   exact⟨⟨h.side,h.state,h.pol,h.own,h.far.put,h.halfs,h.bucket,h.out,h.inp,h.done,h.over.put hk.1.1.2,h.subs8,h.nums,h.subs⟩,hst⟩
  exact⟨h,hst⟩
 ·unfold cG;dsimp only;split
  ·rename_i hk
   simp only [iv,Ru,decide_eq_true_eq] at hk
   obtain⟨n,e1,hn,_⟩:=lF hk.1.2
   have hp:∀ (i:Nat) (h1:i < (e.own.set (aT e.own x.id).toNat { mv e.own (aT e.own x.id).toNat with told:=true }).length) (h2:i < e.own.length),
     (e.own.set (aT e.own x.id).toNat { mv e.own (aT e.own x.id).toNat with told:=true })[i].id=e.own[i].id/\(e.own.set (aT e.own x.id).toNat { mv e.own (aT e.own x.id).toNat with told:=true })[i].addr=e.own[i].addr:=by
    intro i h1 h2
    rw [RG]
    split
    ·rename_i he
     rw [e1,Ry] at he
     subst he
     rw [e1,Ry,fD hn]
     exact⟨rfl,rfl⟩
    exact⟨rfl,rfl⟩
   refine⟨⟨h.side,h.state,h.pol,h.own.pt zP hp,h.far,h.halfs,h.bucket,h.out,h.inp,h.done.pt fun a ha=>?_,h.over,h.subs8,h.nums,h.subs⟩,hst⟩
   obtain⟨j,hj,rfl⟩:=RC ha
   have hj':=hj
   rw [RF] at hj'
   exact⟨e.own[j],Rv hj',(hp j hj hj').1.symm⟩
  exact⟨h,hst⟩
 ·unfold cH;dsimp only;split
  ·rename_i hk
   simp only [rY,Ru,decide_eq_true_eq] at hk
   obtain⟨n,e1,hn,e2⟩:=lF hk.2
   refine⟨⟨h.side,h.state,h.pol,h.own,h.far.drop,h.halfs,h.bucket,h.out,h.inp,h.done,h.over.drop h.far ⟨_,Rv hn,e2⟩,by dsimp only;rw [RX];exact h.subs8,h.nums,h.subs.map fun s hs=>?_⟩,hst⟩
   rw [lS];split
   ·exact⟨(h.subs.el s hs).st zO,rfl,fun _=>rfl⟩
   exact⟨h.subs.el s hs,rfl,fun h=>h⟩
  exact⟨h,hst⟩
 ·unfold cJ;split
  ·refine⟨⟨h.side,h.state,h.pol,h.own,h.far,h.halfs,h.bucket,h.out,?_,h.done,h.over,h.subs8,h.nums,h.subs⟩,hst⟩
   dsimp only
   rw [vL]
   rcases my e.inp x.pos x.text with hp|hp
   ·rw [hp];exact h.inp
   exact hp
  exact⟨h,hst⟩
 ·unfold cv;dsimp only;split
  ·rename_i hk
   obtain⟨n,_,_,hn,_,_,_,hl⟩:=AX hk
   obtain⟨_,_,_,_,_,_,_,_,hp⟩:=jP hl
   exact⟨⟨h.side,h.state,h.pol,h.own,h.far,h.halfs,h.bucket,M9 h.out hp,h.inp,h.done,h.over,h.subs8,h.nums,h.subs⟩,hst⟩
  exact⟨h,hst⟩
 unfold bW;dsimp only;split
 ·rename_i hk
  obtain⟨n,_,e1,hn,_⟩:=AX hk
  refine⟨⟨h.side,h.state,h.pol,h.own,h.far,h.halfs,h.bucket,h.out,h.inp,h.done,h.over,by dsimp only;rw [bB,RF];exact h.subs8,h.nums,?_⟩,hst⟩
  dsimp only
  rw [e1,Ry]
  exact h.subs.st4 hn
 exact⟨h,hst⟩
theorem Dd {o:OutD} (F:FineO o):((dV o).length:Int)<=o.base+(o.text.length:Int) - o.sent:=by
 have:=F.sent
 simp only [dV,RM,RE]
 omega
theorem Ft {o:OutD} (h:outOk o=true):outOk (iJ o)=true:=by
 rw [iJ];split
 ·have F:=dp h
  have hl:=Dd F
  obtain⟨h1,h2,h3,h4,h5⟩:=F
  rw [nD]
  exact⟨h1,h2,h3,by dsimp only;omega⟩
 exact h
theorem KY {n:Int} (h:N9 n):N9 (lw n):=by
 simp only [N9] at h⊢
 rw [lw];split<;>omega
theorem uq {e:EndD} (h:OkE e):OkE (dv e).1:=by
 unfold dv;split
 ·exact⟨h.side,h.state,h.pol,h.own,h.far,h.halfs,h.bucket,Ft h.out,h.inp,h.done,h.over,h.subs8,⟨h.nums.1,h.nums.2.1,h.nums.2.2.1,h.nums.2.2.2.1,KY h.nums.2.2.2.2⟩,h.subs⟩
 exact h
theorem oY {e:EndD}:(dv e).1.state=e.state:=by unfold dv;split<;>rfl
theorem xg:∀ {k:Nat} {e:EndD},OkE e->OkE (bZ k e).1/\(bZ k e).1.state=e.state
 |0,e,h=>⟨h,rfl⟩
 |k+1,e,h=>by
  obtain⟨h1,h2⟩:=xg (k:=k) (uq h)
  exact⟨h1,h2.trans oY⟩
theorem IF {o:OutD} {t:List UInt8} (h:outOk o=true):outOk (dh o t).1=true:=by
 rw [dh];split
 ·obtain⟨h1,h2,h3,h4,h5⟩:=dp h
  rw [nD]
  refine⟨h1,h2,?_,?_⟩
  ·simp only [RD,RM,qi];omega
  simp only [RD,RM,qi];omega
 exact h
theorem qv {e:EndD} {t:List UInt8} (h:OkE e):OkE (write e t).1/\(write e t).1.state=e.state:=by
 unfold write;split
 ·exact⟨⟨h.side,h.state,h.pol,h.own,h.far,h.halfs,h.bucket,IF h.out,h.inp,h.done,h.over,h.subs8,h.nums,h.subs⟩,rfl⟩
 exact⟨h,rfl⟩
theorem GO {p:PiecesD} {m:Int} (h:piecesOk p=true) (hs:SmallP p):piecesOk (bs p m).1=true:=by
 rw [bs];split
 ·rename_i hk
  simp only [Cz,Ru,decide_eq_true_eq] at hk
  have F:=cI h hs
  have hr:=F.ready
  have hr0:=F.r0
  have hn:=F.next
  have hN:yQ p m<=p.ready.length:=Sx _ _
  simp only [piecesOk,eg,Ru,decide_eq_true_eq] at h⊢
  obtain⟨⟨⟨⟨a1,a2⟩,a3⟩,a4⟩,a5⟩:=h
  have hle:=Ah (M:=200) fun x hx=>(F.texts x hx).1
  have hm:p.list.length*200<=20*200:=Nat.mul_le_mul_right _ F.list
  refine⟨⟨⟨⟨zO,zO⟩,a3⟩,?_⟩,?_⟩
  ·rw [rL,lq zO zO] at a4
   show jF ((p.ready.drop (yQ p m)).length:Int) p.list<=200
   rw [lq zO (by rw [RE];omega),RE]
   omega
  have e:nextOf ⟨p.read+(yQ p m:Int),p.ready.drop (yQ p m),p.list⟩=nextOf p:=by
   rw [hn,nextOf,Ei (by simp only [RE];omega)]
   simp only [RE]
   omega
  rw [e];exact a5
 exact h
theorem KZ {e:EndD} {m:Int} (h:OkE e) (hs:SmallP e.inp):OkE (bu e m).1/\(bu e m).1.state=e.state:=by
 unfold bu;split
 ·exact⟨⟨h.side,h.state,h.pol,h.own,h.far,h.halfs,h.bucket,h.out,GO h.inp hs,h.done,h.over,h.subs8,h.nums,h.subs⟩,rfl⟩
 exact⟨h,rfl⟩
theorem GP {o:OutD} (h:outOk o=true):outOk (jL o)=true:=by
 rw [jL,if_pos h]
 obtain⟨h1,h2,h3,h4,h5⟩:=dp h
 rw [nD]
 exact⟨h1,h2,h3,by dsimp only;omega⟩
theorem xh {e:EndD} {l:List LetterD} (h:OkE e):OkE (bA e l).1/\(bA e l).1.state=e.state:=xg h
theorem M_ {e:EndD} (h:OkE e):OkE (tick e).1/\(tick e).1.state=e.state:=by
 unfold tick;split
 ·rename_i hk
  simp only [GF,Ru,decide_eq_true_eq,RI] at hk
  have h0:∀ s:List SubD,s.length<=8->SuOk s->OkE { cP e with subs:=s }:=fun s h8 hs=>
   ⟨h.side,h.state,h.pol,h.own,h.far,h.halfs.young,zh h.bucket,GP h.out,h.inp,h.done,h.over,h8,⟨h.nums.1,h.nums.2.1,h.nums.2.2.1,by have:=h.nums.2.2.2.1;simp only [N9,cP] at this⊢;omega,h.nums.2.2.2.2⟩,hs⟩
  split
  ·refine xh (h0 _ (by rw [RX];exact h.subs8) (h.subs.map fun s hs=>?_))
   have hel:=h.subs.el s hs
   have ht:=hk.2 s hs
   have hN:N9 (s.tries+1):=by have:=hel.2.2.2.2.2.2;simp only [N9] at this⊢;omega
   rw [bI];split
   ·rename_i hc
    split
    ·exact⟨⟨zP,hel.2.1,hel.2.2.1,hel.2.2.2.1,hel.2.2.2.2.1,hel.2.2.2.2.2.1,hN⟩,rfl,fun _=>rfl⟩
    exact⟨⟨hel.1,hel.2.1,hel.2.2.1,hel.2.2.2.1,hel.2.2.2.2.1,hel.2.2.2.2.2.1,hN⟩,rfl,fun h=>h⟩
   exact⟨hel,rfl,fun h=>h⟩
  exact xh (h0 e.subs h.subs8 h.subs)
 exact⟨h,rfl⟩
theorem ur {e:EndD} {r:RoadD} {b:Bool} (h:OkE e):OkE (dE e r b).1/\(dE e r b).1.state=e.state:=by
 unfold dE;split
 ·rename_i hk
  simp only [xU,Ru,decide_eq_true_eq,df,nA] at hk
  obtain⟨⟨⟨⟨⟨⟨⟨k1,k2⟩,k3⟩,k4⟩,k5⟩,k6⟩,k7⟩,k8⟩:=hk
  refine⟨⟨h.side,h.state,h.pol,h.own,h.far,h.halfs,h.bucket,h.out,h.inp,h.done,h.over,by simp only [RD,RJ];omega,⟨h.nums.1,h.nums.2.1,⟨by dsimp only;omega,by dsimp only;omega⟩,h.nums.2.2.2⟩,?_⟩,rfl⟩
  refine h.subs.app ⟨by simp [de],k3,?_,?_,?_,?_,?_⟩ fun x hx=>sx.1 k4 x hx
  all_goals simp only [de,N9];omega
 exact⟨h,rfl⟩
theorem De {far:List AddrD}:∀ {l:List RoadD} {e:EndD},OkE e->OkE (dm far e l).1/\(dm far e l).1.state=e.state
 |[],e,h=>⟨h,rfl⟩
 |r::l,e,h=>by
  obtain⟨h1,h2⟩:=ur (r:=r) (b:=aZ far r.far) h
  obtain⟨h3,h4⟩:=De (far:=far) (l:=l) h1
  exact⟨h3,h4.trans h2⟩
theorem nF {e:EndD} {a:ActD} (h:OkE e) (hs:SmallP e.inp):OkE (dq e a).1/\(dq e a).1.state=e.state:=by
 unfold dq
 split
 ·obtain⟨h1,h2⟩:=qv (t:=a.text) h
  obtain⟨h3,h4⟩:=xg (k:=3) h1
  exact⟨h3,h4.trans h2⟩
 split
 ·exact KZ h hs
 split
 ·exact M_ h
 split
 ·unfold manage;split
  ·exact De h
  exact⟨h,rfl⟩
 split
 ·unfold aN;split
  ·rename_i hk
   simp only [EV,Ru,RK,KX] at hk
   exact⟨⟨h.side,h.state,h.pol,h.own.put,h.far,h.halfs,h.bucket,h.out,h.inp,h.done.put hk.2,h.over,h.subs8,h.nums,h.subs⟩,rfl⟩
  exact⟨h,rfl⟩
 split
 ·unfold bz;split
  ·rename_i hk
   simp only [H0,Ru,decide_eq_true_eq] at hk
   obtain⟨n,e1,hn,e2⟩:=lF hk.2
   refine⟨⟨h.side,h.state,h.pol,h.own.drop,h.far,h.halfs,h.bucket,h.out,h.inp,h.done.drop h.own ⟨_,Rv hn,e2⟩,h.over,by dsimp only;rw [dI,RX];exact h.subs8,h.nums,h.subs.map fun s hs=>?_⟩,rfl⟩
   rw [iS];split
   ·exact⟨(h.subs.el s hs).st zO,rfl,fun _=>rfl⟩
   exact⟨h.subs.el s hs,rfl,fun h=>h⟩
  exact⟨h,rfl⟩
 unfold cp;split
 ·rename_i hk
  simp only [t8,Ru,decide_eq_true_eq,df] at hk
  obtain⟨n,hn⟩:=R2 hk.1.2.1
  refine⟨⟨h.side,h.state,h.pol,h.own,h.far,h.halfs,h.bucket,h.out,h.inp,h.done,h.over,by dsimp only;rw [bB,RF];exact h.subs8,h.nums,?_⟩,rfl⟩
  dsimp only
  rw [hn,Ry]
  exact h.subs.st4 zO
 exact⟨h,rfl⟩
def bk (r:RoadD):RoadD:=⟨r.far,r.own,r.port⟩
theorem zi (r:RoadD):bk (bk r)=r:=rfl
def Loose (nums:List Int) (n:Int):Prop:=n < 1000\/n∈nums
def Slice (W:List UInt8) (p:Int) (t:List UInt8):Prop:=0<=p/\p+(t.length:Int)<=W.length/\t=(W.drop p.toNat).take t.length
theorem Slice.app {W:List UInt8} {p:Int} {t:List UInt8} (h:Slice W p t) (V:List UInt8):Slice (W++V) p t:=by
 obtain⟨h0,h1,h2⟩:=h
 refine⟨h0,by simp only [RD];omega,?_⟩
 rw [R3 zO,List.take_append_of_le_length (by simp only [RE];omega)]
 exact h2
def Told (e:EndD) (i d:Int):Prop:=(∃ q∈e.own,q.id=i/\q.addr=d)\/i∈e.done
structure LetI (w:WorldD) (x:LetterD):Prop where
 a4:sideAt x.to=1->x.kind=4->Loose w.nums x.nonce
 a5:sideAt x.to=1->x.kind=5->∀ m,x.tag=⟨1,w.b.key,w.a.key,x.nonce,m⟩->Loose w.nums m\/(x.nonce < w.b.draw/\∀ h∈w.b.halfs,h.mine=x.nonce->h.theirs=m/\h.take=x.give/\h.road=bk (roadOf x))
 a6:sideAt x.to=1->x.kind=6->∀ m n,¬ x.tag=⟨2,w.b.key,w.a.key,m,n⟩
 a7:sideAt x.to=1->x.kind=7->Loose w.nums x.sgn\/∃ t∈w.b.subs,t.give=x.sgn
 a8:sideAt x.to=1->x.kind=8->∀ i d,x.tag=⟨3,w.b.key,w.a.key,i,d⟩->sideAt d=2/\Told w.b i d
 a11:sideAt x.to=1->x.kind=11->Loose w.nums x.sgn\/Slice w.wroteB x.pos x.text
 b4:sideAt x.to=2->x.kind=4->Loose w.nums x.nonce\/∃ s∈w.a.subs,1000<=s.mine/\x.nonce=s.mine/\x.give=s.take/\roadOf x=bk s.road
 b6:sideAt x.to=2->x.kind=6->∀ m n,x.tag=⟨2,w.a.key,w.b.key,m,n⟩->∃ s∈w.a.subs,¬ s.state=1/\1000<=s.mine/\m=s.mine/\n=s.theirs/\roadOf x=bk s.road
 b8:sideAt x.to=2->x.kind=8->∀ i d,x.tag=⟨3,w.a.key,w.b.key,i,d⟩->sideAt d=1/\Told w.a i d
 b11:sideAt x.to=2->x.kind=11->Loose w.nums x.sgn\/Slice w.wroteA x.pos x.text
structure SubTo (s s':SubD):Prop where
 road:s'.road=s.road
 mine:s'.mine=s.mine
 take:s'.take=s.take
 rest:¬ s.state=1->¬ s'.state=1/\s'.theirs=s.theirs/\s'.give=s.give
theorem SubTo.refl (s:SubD):SubTo s s:=⟨rfl,rfl,rfl,fun h=>⟨h,rfl,rfl⟩⟩
structure Le (w w':WorldD):Prop where
 ka:w'.a.key=w.a.key
 kb:w'.b.key=w.b.key
 nums:∀ n∈w.nums,n∈w'.nums
 sa:∀ s∈w.a.subs,∃ s'∈w'.a.subs,SubTo s s'
 sb:∀ t∈w.b.subs,∃ t'∈w'.b.subs,t'.give=t.give
 db:w.b.draw<=w'.b.draw
 hb:∀ h'∈w'.b.halfs,w.b.draw<=h'.mine\/∃ h∈w.b.halfs,h.mine=h'.mine/\h.theirs=h'.theirs/\h.take=h'.take/\h.road=h'.road
 ta:∀ i d,Told w.a i d->Told w'.a i d
 tb:∀ i d,Told w.b i d->Told w'.b i d
 wa:∃ t,w'.wroteA=w.wroteA++t
 wb:∃ t,w'.wroteB=w.wroteB++t
theorem Loose.mono {l m:List Int} {n:Int} (h:Loose l n) (g:∀ n∈l,n∈m):Loose m n:=h.imp id (g n)
theorem LetI.mono {w w':WorldD} {x:LetterD} (L:LetI w x) (h:Le w w'):LetI w' x:=by
 refine⟨?_,?_,?_,?_,?_,?_,?_,?_,?_,?_⟩
 ·exact fun h1 h2=>(L.a4 h1 h2).mono h.nums
 ·intro h1 h2 m h3
  rw [h.ka,h.kb] at h3
  rcases L.a5 h1 h2 m h3 with q|⟨q1,q2⟩
  ·exact .inl (q.mono h.nums)
  refine .inr ⟨Sq q1 h.db,fun k hk hm=>?_⟩
  rcases h.hb k hk with g|⟨k',g1,g2,g3,g4,g5⟩
  ·omega
  rw [<-g3,<-g4,<-g5];exact q2 k' g1 zO
 ·intro h1 h2;rw [h.ka,h.kb];exact L.a6 h1 h2
 ·intro h1 h2
  rcases L.a7 h1 h2 with q|⟨t,q1,q2⟩
  ·exact .inl (q.mono h.nums)
  obtain⟨t',g1,g2⟩:=h.sb t q1
  exact .inr ⟨t',g1,g2.trans q2⟩
 ·intro h1 h2 i d h3
  rw [h.ka,h.kb] at h3
  obtain⟨q1,q2⟩:=L.a8 h1 h2 i d h3
  exact⟨q1,h.tb i d q2⟩
 ·intro h1 h2
  rcases L.a11 h1 h2 with q|q
  ·exact .inl (q.mono h.nums)
  obtain⟨t,e⟩:=h.wb
  rw [e];exact .inr (q.app t)
 ·intro h1 h2
  rcases L.b4 h1 h2 with q|⟨s,q1,q2,q3,q4,q5⟩
  ·exact .inl (q.mono h.nums)
  obtain⟨s',g1,g2⟩:=h.sa s q1
  exact .inr ⟨s',g1,by rw [g2.mine];exact q2,by rw [g2.mine];exact q3,by rw [g2.take];exact q4,by rw [g2.road];exact q5⟩
 ·intro h1 h2 m n h3
  rw [h.ka,h.kb] at h3
  obtain⟨s,q1,q2,q3,q4,q5,q6⟩:=L.b6 h1 h2 m n h3
  obtain⟨s',g1,g2⟩:=h.sa s q1
  obtain⟨r1,r2,r3⟩:=g2.rest q2
  exact⟨s',g1,r1,by rw [g2.mine];exact q3,by rw [g2.mine];exact q4,by rw [r2];exact q5,by rw [g2.road];exact q6⟩
 ·intro h1 h2 i d h3
  rw [h.ka,h.kb] at h3
  obtain⟨q1,q2⟩:=L.b8 h1 h2 i d h3
  exact⟨q1,h.ta i d q2⟩
 intro h1 h2
 rcases L.b11 h1 h2 with q|q
 ·exact .inl (q.mono h.nums)
 obtain⟨t,e⟩:=h.wa
 rw [e];exact .inr (q.app t)
structure SubA (nums:List Int) (da db:Int) (hb:List HalfD) (sb:List SubD) (s:SubD):Prop where
 t4:s.take % 4=3/\1000<=s.take/\s.take < da
 tn:¬ s.take∈nums
 mine:s.mine=0\/(s.mine+2=s.take/\¬ s.mine∈nums)
 own:sideAt s.road.own=1
 far:sideAt s.road.far=2
 th:s.theirs < db/\∀ h∈hb,h.mine=s.theirs->h.theirs=s.mine/\h.take=s.give/\h.road=bk s.road
 on:s.state=3->∃ t∈sb,t.road=bk s.road/\t.take=s.give/\t.give=s.take
 ask:s.state=1\/s.state=2->1000<=s.mine
structure SubB (nums:List Int) (db:Int) (sa:List SubD) (t:SubD):Prop where
 t4:t.take % 4=0/\1000<=t.take/\t.take < db
 tn:¬ t.take∈nums
 st:t.state=3\/t.state=4
 like:∃ s∈sa,¬ s.state=1/\s.road=bk t.road/\s.take=t.give/\s.give=t.take
structure HalfA (nums:List Int) (da:Int) (sa:List SubD) (h:HalfD):Prop where
 m4:h.mine % 4=1/\1000<=h.mine/\h.mine+2 < da/\h.take=h.mine+2
 sep:∀ s∈sa,¬ s.take=h.take
 th:Loose nums h.theirs
structure HalfB (nums:List Int) (db:Int) (sa sb:List SubD) (h:HalfD):Prop where
 m4:h.mine % 4=2/\1000<=h.mine/\h.mine+2 < db/\h.take=h.mine+2
 sep:∀ t∈sb,¬ t.take=h.take
 th:Loose nums h.theirs\/(¬ h.take∈nums/\∃ s∈sa,1000<=s.mine/\s.mine=h.theirs/\s.take=h.give/\s.road=bk h.road)
structure OutI (W:List UInt8) (o:OutD):Prop where
 base:0<=o.base/\o.base+(o.text.length:Int)=W.length
 text:o.text=W.drop o.base.toNat
structure InI (W R:List UInt8) (p:PiecesD):Prop where
 read:p.read=R.length
 pre:∃ T,W=R++p.ready++T
 list:∀ x∈p.list,Slice W x.pos x.text
structure Core (w:WorldD):Prop where
 oka:OkE w.a
 okb:OkE w.b
 sta:w.a.state=2
 stb:w.b.state=2
 sia:w.a.side=1
 sib:w.b.side=2
 ka:1000<=w.a.key
 kb:1000<=w.b.key
 kk:¬ w.a.key=w.b.key
 pa:w.a.peer=w.b.key
 pb:w.b.peer=w.a.key
 keys:w.known.keys=[5,7]
 tags:∀ u∈w.known.tags,u.kind=1/\Loose w.nums u.b
 da:w.a.draw % 4=1/\1000<=w.a.draw
 db:w.b.draw % 4=2/\1000<=w.b.draw
 nn:∀ n∈w.nums,(n % 2=1->n < w.a.draw)/\(n % 2=0->n < w.b.draw)
 sa:∀ s∈w.a.subs,SubA w.nums w.a.draw w.b.draw w.b.halfs w.b.subs s
 sad:w.a.subs.Pairwise fun s t=>¬ s.take=t.take
 sb:∀ t∈w.b.subs,SubB w.nums w.b.draw w.a.subs t
 ha:∀ h∈w.a.halfs,HalfA w.nums w.a.draw w.a.subs h
 hb:∀ h∈w.b.halfs,HalfB w.nums w.b.draw w.a.subs w.b.subs h
 hbd:w.b.halfs.Pairwise fun h k=>¬ h.take=k.take
 oa:∀ q∈w.a.own,sideAt q.addr=1
 ob:∀ q∈w.b.own,sideAt q.addr=2
 fa:∀ f∈w.a.far,sideAt f.addr=2/\Told w.b f.id f.addr
 fb:∀ f∈w.b.far,sideAt f.addr=1/\Told w.a f.id f.addr
 oia:OutI w.wroteA w.a.out
 oib:OutI w.wroteB w.b.out
 iia:InI w.wroteB w.readA w.a.inp
 iib:InI w.wroteA w.readB w.b.inp
structure Inv (w:WorldD):Prop where
 c:Core w
 bag:∀ x∈w.bag,LetI w x
 past:∀ x∈w.past,LetI w x
theorem kL {l:List SubD} (h:l.Pairwise fun s t=>¬ s.take=t.take) {s t:SubD} (hs:s∈l) (ht:t∈l) (e:s.take=t.take):s=t:=by
 obtain⟨i,hi,rfl⟩:=RC hs
 obtain⟨j,hj,rfl⟩:=RC ht
 rw [RA] at h
 rcases R4 i j with hl|hl|hl
 ·exact absurd e (h i j hi hj hl)
 ·subst hl;rfl
 exact absurd e.symm (h j i hj hi hl)
structure Free (w:WorldD) (x:LetterD):Prop where
 kind:x.tag.kind=1
 th:Loose w.nums x.tag.b
 sgn:x.sgn=0
 sa:∀ s∈w.a.subs,¬ s.take=x.give/\¬ s.take=x.nonce/\(s.mine=0\/¬ s.mine=x.nonce/\¬ s.mine=x.give)
 sb:∀ t∈w.b.subs,¬ t.take=x.give/\¬ t.take=x.nonce
 hb:∀ h∈w.b.halfs,h.take=x.give\/h.take=x.nonce->Loose w.nums h.theirs
 pos:1000<=x.nonce/\1000<=x.give
 nn:∀ n,n=x.nonce\/n=x.give->(n % 2=1->n < w.a.draw)/\(n % 2=0->n < w.b.draw)
structure Post (w:WorldD) (x:LetterD):Prop where
 some:sideAt x.to=0\/LetI w x
 none:sideAt x.to=0->Free w x
theorem xi {l:List Int} {n m:Int} (h:m∈iY l n):m=n/\0 < n\/m∈l:=by
 rw [iY] at h;split at h
 ·rename_i hc
  rcases Rz.1 h with h|h
  ·exact .inr h
  exact .inl ⟨Rw.1 h,hc.1⟩
 exact .inr h
theorem kM {l:List Int} {n m:Int} (h:m∈l):m∈iY l n:=by
 rw [iY];split
 ·exact RH _ h
 exact h
theorem IG {w:WorldD} {x:LetterD} (h:sideAt x.to=0):LetI w x:=by
 constructor<;>(intro h1;omega)
theorem Post.let {w:WorldD} {x:LetterD} (h:Post w x):LetI w x:=h.some.elim IG id
theorem qw {w w':WorldD} (ha:w'.a=w.a) (hb:w'.b=w.b) (hn:∀ n∈w.nums,n∈w'.nums) (h1:w'.wroteA=w.wroteA) (h2:w'.wroteB=w.wroteB):Le w w':=by
 refine⟨by rw [ha],by rw [hb],hn,fun s hs=>⟨s,by rw [ha];exact hs,SubTo.refl s⟩,fun t ht=>⟨t,by rw [hb];exact ht,rfl⟩,by rw [hb];exact Rx _,fun h hh=>.inr ⟨h,by rw [hb] at hh;exact hh,rfl,rfl,rfl,rfl⟩,fun i d h=>by rw [ha];exact h,fun i d h=>by rw [hb];exact h,⟨[],by rw [h1,RQ]⟩,⟨[],by rw [h2,RQ]⟩⟩
theorem Post.mono {w w':WorldD} {x:LetterD} (h:Post w x) (L:Le w w') (ha:w'.a=w.a) (hb:w'.b=w.b):Post w' x:=by
 refine⟨h.some.imp id fun q=>q.mono L,fun h0=>?_⟩
 have F:=h.none h0
 exact⟨F.kind,F.th.mono L.nums,F.sgn,by rw [ha];exact F.sa,by rw [hb];exact F.sb,by rw [hb];exact fun k hk hq=>(F.hb k hk hq).mono L.nums,F.pos,by rw [ha,hb];exact F.nn⟩
theorem Fu {k:KnownD} {t u:TagD} (h:u∈(gM k t).tags):u=t\/u∈k.tags:=by
 rw [gM] at h;split at h
 ·rcases Rz.1 h with h|h
  ·exact .inr h
  exact .inl (Rw.1 h)
 exact .inr h
theorem xj {w:WorldD} {side:Int} {x:LetterD} (h:Core w):Core (mE side w x):=⟨h.oka,h.okb,h.sta,h.stb,h.sia,h.sib,h.ka,h.kb,h.kk,h.pa,h.pb,h.keys,h.tags,h.da,h.db,h.nn,h.sa,h.sad,h.sb,h.ha,h.hb,h.hbd,h.oa,h.ob,h.fa,h.fb,h.oia,h.oib,h.iia,h.iib⟩
theorem Df {w:WorldD} {l:List LetterD} (h:Core w):Core { w with bag:=l }:=⟨h.oka,h.okb,h.sta,h.stb,h.sia,h.sib,h.ka,h.kb,h.kk,h.pa,h.pb,h.keys,h.tags,h.da,h.db,h.nn,h.sa,h.sad,h.sb,h.ha,h.hb,h.hbd,h.oa,h.ob,h.fa,h.fb,h.oia,h.oib,h.iia,h.iib⟩
theorem Fv {w:WorldD} {x:LetterD} (h:Core w) (F:Free w x):Core (og w x):=by
 have hn:∀ n∈(og w x).nums,n=x.nonce\/n=x.give\/n∈w.nums:=by
  intro n hm
  rcases xi hm with⟨_,h0⟩|hm
  ·rw [F.sgn] at h0;omega
  rcases xi hm with⟨e,_⟩|hm
  ·exact .inr (.inl e)
  rcases xi hm with⟨e,_⟩|hm
  ·exact .inl e
  exact .inr (.inr hm)
 have ho:∀ n∈w.nums,n∈(og w x).nums:=fun n hm=>kM (kM (kM hm))
 refine⟨h.oka,h.okb,h.sta,h.stb,h.sia,h.sib,h.ka,h.kb,h.kk,h.pa,h.pb,?_,?_,h.da,h.db,?_,?_,h.sad,?_,?_,?_,h.hbd,h.oa,h.ob,h.fa,h.fb,h.oia,h.oib,h.iia,h.iib⟩
 ·rw [og,lu];exact h.keys
 ·intro u hu
  rcases Fu hu with rfl|hu
  ·exact⟨F.kind,F.th.mono ho⟩
  exact⟨(h.tags u hu).1,(h.tags u hu).2.mono ho⟩
 ·intro n hm
  rcases hn n hm with e|e|e
  ·exact F.nn n (.inl e)
  ·exact F.nn n (.inr e)
  exact h.nn n e
 ·intro s hs
  have S:=h.sa s hs
  obtain⟨f1,f2,f3⟩:=F.sa s hs
  refine⟨S.t4,fun hc=>?_,?_,S.own,S.far,S.th,S.on,S.ask⟩
  ·rcases hn _ hc with e|e|e
   ·exact f2 e
   ·exact f1 e
   exact S.tn e
  rcases S.mine with m|⟨m1,m2⟩
  ·exact .inl m
  rcases f3 with f3|⟨f3,f4⟩
  ·exact .inl f3
  refine .inr ⟨m1,fun hc=>?_⟩
  rcases hn _ hc with e|e|e
  ·exact f3 e
  ·exact f4 e
  exact m2 e
 ·intro t ht
  have S:=h.sb t ht
  obtain⟨f1,f2⟩:=F.sb t ht
  refine⟨S.t4,fun hc=>?_,S.st,S.like⟩
  rcases hn _ hc with e|e|e
  ·exact f2 e
  ·exact f1 e
  exact S.tn e
 ·intro k hk
  have S:=h.ha k hk
  exact⟨S.m4,S.sep,S.th.mono ho⟩
 intro k hk
 have S:=h.hb k hk
 refine⟨S.m4,S.sep,?_⟩
 rcases S.th with q|⟨q1,q2⟩
 ·exact .inl (q.mono ho)
 by_cases hf:k.take=x.give\/k.take=x.nonce
 ·exact .inl ((F.hb k hk hf).mono ho)
 refine .inr ⟨fun hc=>?_,q2⟩
 rcases hn _ hc with e|e|e
 ·exact hf (.inr e)
 ·exact hf (.inl e)
 exact q1 e
theorem sA {w:WorldD} {side:Int} {x:LetterD} (h:Inv w) (P:Post w x):Inv (br side w x)/\Le w (br side w x)/\(br side w x).a=w.a/\(br side w x).b=w.b:=by
 obtain⟨e1,e2,e3,e4,_,_⟩:=iy (side:=side) (w:=w) (x:=x)
 have hpast:∀ y∈fE w.past x,y=x\/y∈w.past:=by
  intro y hy
  rw [fE] at hy;split at hy
  ·rcases Rz.1 hy with hy|hy
   ·exact .inr hy
   exact .inl (Rw.1 hy)
  exact .inr hy
 have hbag:∀ y∈qg w.bag x,y=x\/y∈w.bag:=by
  intro y hy
  rw [qg] at hy;split at hy
  ·rcases Rz.1 hy with hy|hy
   ·exact .inr hy
   exact .inl (Rw.1 hy)
  exact .inr hy
 have hL:=P.let
 by_cases h0:sideAt x.to=0
 ·have hl:Le w (br side w x):=qw e1 e2 (by rw [br,if_pos h0];exact fun n hm=>kM (kM (kM hm))) e3 e4
  refine⟨?_,hl,e1,e2⟩
  have hc:=Fv (w:=mE side w x) (x:=x) (xj h.c) ⟨(P.none h0).kind,(P.none h0).th,(P.none h0).sgn,(P.none h0).sa,(P.none h0).sb,(P.none h0).hb,(P.none h0).pos,(P.none h0).nn⟩
  refine⟨by rw [br,if_pos h0];exact hc,fun y hy=>?_,fun y hy=>?_⟩
  ·rw [br,if_pos h0] at hy
   exact (h.bag y hy).mono hl
  rw [br,if_pos h0] at hy
  rcases hpast y hy with rfl|hy
  ·exact hL.mono hl
  exact (h.past y hy).mono hl
 have hl:Le w (br side w x):=qw e1 e2 (by rw [br,if_neg h0];exact fun n hm=>hm) e3 e4
 refine⟨?_,hl,e1,e2⟩
 refine⟨by rw [br,if_neg h0];exact Df (xj h.c),fun y hy=>?_,fun y hy=>?_⟩
 ·rw [br,if_neg h0] at hy
  rcases hbag y hy with rfl|hy
  ·exact hL.mono hl
  exact (h.bag y hy).mono hl
 rw [br,if_neg h0] at hy
 rcases hpast y hy with rfl|hy
 ·exact hL.mono hl
 exact (h.past y hy).mono hl
theorem zj {side:Int}:∀ {l:List LetterD} {w:WorldD},Inv w->(∀ x∈l,Post w x)->Inv (az side w l)
 |[],w,h,_=>h
 |x::l,w,h,P=>by
  obtain⟨h1,h2,h3,h4⟩:=sA (side:=side) h (P x zP)
  exact zj (l:=l) h1 fun y hy=>(P y (by simp [hy])).mono h2 h3 h4
theorem InI.app {W R:List UInt8} {p:PiecesD} (h:InI W R p) (V:List UInt8):InI (W++V) R p:=by
 obtain⟨T,hT⟩:=h.pre
 exact⟨h.read,⟨T++V,by rw [hT];simp⟩,fun x hx=>(h.list x hx).app V⟩
structure PutA (w w':WorldD):Prop where
 hb:w'.b=w.b
 nums:w'.nums=w.nums
 known:w'.known=w.known
 readB:w'.readB=w.readB
 wroteB:w'.wroteB=w.wroteB
 wroteA:∃ t,w'.wroteA=w.wroteA++t
 ok:OkE w'.a
 st:w'.a.state=2
 sd:w'.a.side=1
 ky:w'.a.key=w.a.key
 pe:w'.a.peer=w.a.peer
 dr:w'.a.draw % 4=1/\w.a.draw<=w'.a.draw
 evo:∀ s∈w.a.subs,∃ s'∈w'.a.subs,SubTo s s'
 sa:∀ s∈w'.a.subs,SubA w.nums w'.a.draw w.b.draw w.b.halfs w.b.subs s
 sad:w'.a.subs.Pairwise fun s t=>¬ s.take=t.take
 ha:∀ h∈w'.a.halfs,HalfA w.nums w'.a.draw w'.a.subs h
 oa:∀ q∈w'.a.own,sideAt q.addr=1
 fa:∀ f∈w'.a.far,sideAt f.addr=2/\Told w.b f.id f.addr
 tl:∀ i d,Told w.a i d->Told w'.a i d
 oia:OutI w'.wroteA w'.a.out
 iia:InI w.wroteB w'.readA w'.a.inp
theorem PutA.le {w w':WorldD} (P:PutA w w'):Le w w':=
 ⟨P.ky,by rw [P.hb],by rw [P.nums];exact fun n h=>h,P.evo,fun t ht=>⟨t,by rw [P.hb];exact ht,rfl⟩,by rw [P.hb];exact Rx _,fun h hh=>.inr ⟨h,by rw [P.hb] at hh;exact hh,rfl,rfl,rfl,rfl⟩,P.tl,fun i d h=>by rw [P.hb];exact h,P.wroteA,⟨[],by rw [P.wroteB,RQ]⟩⟩
theorem PutA.core {w w':WorldD} (P:PutA w w') (C:Core w):Core w':=by
 refine⟨P.ok,by rw [P.hb];exact C.okb,P.st,by rw [P.hb];exact C.stb,P.sd,by rw [P.hb];exact C.sib,by rw [P.ky];exact C.ka,by rw [P.hb];exact C.kb,by rw [P.ky,P.hb];exact C.kk,by rw [P.pe,P.hb];exact C.pa,by rw [P.hb,P.ky];exact C.pb,by rw [P.known];exact C.keys,by rw [P.known,P.nums];exact C.tags,⟨P.dr.1,by have:=C.da.2;have:=P.dr.2;omega⟩,by rw [P.hb];exact C.db,?_,by rw [P.nums,P.hb];exact P.sa,P.sad,?_,by rw [P.nums];exact P.ha,?_,by rw [P.hb];exact C.hbd,P.oa,by rw [P.hb];exact C.ob,by rw [P.hb];exact P.fa,?_,P.oia,by rw [P.wroteB,P.hb];exact C.oib,by rw [P.wroteB];exact P.iia,?_⟩
 ·rw [P.nums,P.hb]
  intro n hn
  have:=C.nn n hn
  have hd:=P.dr.2
  exact⟨fun h=>by have:=this.1 h;omega,this.2⟩
 ·rw [P.nums,P.hb]
  intro t ht
  have S:=C.sb t ht
  obtain⟨s,h1,h2,h3,h4,h5⟩:=S.like
  obtain⟨s',g1,g2⟩:=P.evo s h1
  obtain⟨r1,r2,r3⟩:=g2.rest h2
  exact⟨S.t4,S.tn,S.st,s',g1,r1,by rw [g2.road];exact h3,by rw [g2.take];exact h4,by rw [r3];exact h5⟩
 ·rw [P.nums,P.hb]
  intro h hh
  have S:=C.hb h hh
  refine⟨S.m4,S.sep,S.th.imp id fun⟨q1,s,h1,h2,h3,h4,h5⟩=>?_⟩
  obtain⟨s',g1,g2⟩:=P.evo s h1
  exact⟨q1,s',g1,by rw [g2.mine];exact h2,by rw [g2.mine];exact h3,by rw [g2.take];exact h4,by rw [g2.road];exact h5⟩
 ·rw [P.hb]
  exact fun f hf=>⟨(C.fb f hf).1,P.tl _ _ (C.fb f hf).2⟩
 rw [P.readB,P.hb]
 obtain⟨t,ht⟩:=P.wroteA
 rw [ht];exact C.iib.app t
structure PutB (w w':WorldD):Prop where
 ha:w'.a=w.a
 nums:w'.nums=w.nums
 known:w'.known=w.known
 readA:w'.readA=w.readA
 wroteA:w'.wroteA=w.wroteA
 wroteB:∃ t,w'.wroteB=w.wroteB++t
 ok:OkE w'.b
 st:w'.b.state=2
 sd:w'.b.side=2
 ky:w'.b.key=w.b.key
 pe:w'.b.peer=w.b.peer
 dr:w'.b.draw % 4=2/\w.b.draw<=w'.b.draw
 evo:∀ t∈w.b.subs,∃ t'∈w'.b.subs,t'.road=t.road/\t'.take=t.take/\t'.give=t.give
 sb:∀ t∈w'.b.subs,SubB w.nums w'.b.draw w.a.subs t
 hb:∀ h∈w'.b.halfs,HalfB w.nums w'.b.draw w.a.subs w'.b.subs h
 hbd:w'.b.halfs.Pairwise fun h k=>¬ h.take=k.take
 hev:∀ h'∈w'.b.halfs,w.b.draw<=h'.mine\/∃ h∈w.b.halfs,h.mine=h'.mine/\h.theirs=h'.theirs/\h.take=h'.take/\h.road=h'.road
 ob:∀ q∈w'.b.own,sideAt q.addr=2
 fb:∀ f∈w'.b.far,sideAt f.addr=1/\Told w.a f.id f.addr
 tl:∀ i d,Told w.b i d->Told w'.b i d
 oib:OutI w'.wroteB w'.b.out
 iib:InI w.wroteA w'.readB w'.b.inp
theorem PutB.le {w w':WorldD} (P:PutB w w'):Le w w':=
 ⟨by rw [P.ha],P.ky,by rw [P.nums];exact fun n h=>h,fun s hs=>⟨s,by rw [P.ha];exact hs,SubTo.refl s⟩,fun t ht=>by obtain⟨t',g1,_,_,g2⟩:=P.evo t ht;exact⟨t',g1,g2⟩,P.dr.2,P.hev,fun i d h=>by rw [P.ha];exact h,P.tl,⟨[],by rw [P.wroteA,RQ]⟩,P.wroteB⟩
theorem PutB.core {w w':WorldD} (P:PutB w w') (C:Core w):Core w':=by
 refine⟨by rw [P.ha];exact C.oka,P.ok,by rw [P.ha];exact C.sta,P.st,by rw [P.ha];exact C.sia,P.sd,by rw [P.ha];exact C.ka,by rw [P.ky];exact C.kb,by rw [P.ky,P.ha];exact C.kk,by rw [P.ha,P.ky];exact C.pa,by rw [P.pe,P.ha];exact C.pb,by rw [P.known];exact C.keys,by rw [P.known,P.nums];exact C.tags,by rw [P.ha];exact C.da,⟨P.dr.1,by have:=C.db.2;have:=P.dr.2;omega⟩,?_,?_,by rw [P.ha];exact C.sad,by rw [P.nums,P.ha];exact P.sb,by rw [P.nums,P.ha];exact C.ha,by rw [P.nums,P.ha];exact P.hb,P.hbd,by rw [P.ha];exact C.oa,P.ob,?_,by rw [P.ha];exact P.fb,by rw [P.wroteA,P.ha];exact C.oia,P.oib,?_,by rw [P.wroteA];exact P.iib⟩
 ·rw [P.nums,P.ha]
  intro n hn
  have:=C.nn n hn
  have hd:=P.dr.2
  exact⟨this.1,fun h=>by have:=this.2 h;omega⟩
 ·rw [P.nums,P.ha]
  intro s hs
  have S:=C.sa s hs
  refine⟨S.t4,S.tn,S.mine,S.own,S.far,⟨Sq S.th.1 P.dr.2,fun h hh hm=>?_⟩,fun h3=>?_,S.ask⟩
  ·rcases P.hev h hh with g|⟨k,g1,g2,g3,g4,g5⟩
   ·have:=S.th.1;omega
   obtain⟨q1,q2,q3⟩:=S.th.2 k g1 zO
   exact⟨by rw [<-g3];exact q1,by rw [<-g4];exact q2,by rw [<-g5];exact q3⟩
  obtain⟨t,g1,g2,g3,g4⟩:=S.on h3
  obtain⟨t',k1,k2,k3,k4⟩:=P.evo t g1
  exact⟨t',k1,by rw [k2];exact g2,by rw [k3];exact g3,by rw [k4];exact g4⟩
 ·rw [P.ha]
  exact fun f hf=>⟨(C.fa f hf).1,P.tl _ _ (C.fa f hf).2⟩
 rw [P.readA,P.ha]
 obtain⟨t,ht⟩:=P.wroteB
 rw [ht];exact C.iia.app t
structure SubKeep (s s':SubD):Prop where
 road:s'.road=s.road
 mine:s'.mine=s.mine
 theirs:s'.theirs=s.theirs
 give:s'.give=s.give
 take:s'.take=s.take
 state:s'.state=s.state\/s'.state=4
theorem SubKeep.refl (s:SubD):SubKeep s s:=⟨rfl,rfl,rfl,rfl,rfl,.inl rfl⟩
theorem SubKeep.to {s s':SubD} (h:SubKeep s s'):SubTo s s':=⟨h.road,h.mine,h.take,fun h1=>⟨by rcases h.state with g|g<;>omega,h.theirs,h.give⟩⟩
theorem SubKeep.subA {nums:List Int} {da db:Int} {hb:List HalfD} {sb:List SubD} {s s':SubD} (h:SubKeep s s') (S:SubA nums da db hb sb s):SubA nums da db hb sb s':=by
 refine⟨by rw [h.take];exact S.t4,by rw [h.take];exact S.tn,by rw [h.mine,h.take];exact S.mine,by rw [h.road];exact S.own,by rw [h.road];exact S.far,by rw [h.theirs,h.mine,h.give,h.road];exact S.th,fun h3=>?_,fun h1=>?_⟩
 ·rw [h.road,h.give,h.take]
  exact S.on (by rcases h.state with g|g<;>omega)
 rw [h.mine];exact S.ask (by rcases h.state with g|g<;>omega)
theorem SubKeep.subB {nums:List Int} {db:Int} {sa:List SubD} {t t':SubD} (h:SubKeep t t') (S:SubB nums db sa t):SubB nums db sa t':=
 ⟨by rw [h.take];exact S.t4,by rw [h.take];exact S.tn,by rcases h.state with g|g<;>(rw [g];first|exact S.st|exact .inr rfl),by rw [h.road,h.give,h.take];exact S.like⟩
structure SubsKeep (l m:List SubD):Prop where
 len:m.length=l.length
 at_:∀ (i:Nat) (h1:i < m.length) (h2:i < l.length),SubKeep l[i] m[i]
theorem SubsKeep.refl (l:List SubD):SubsKeep l l:=⟨rfl,fun i h1 h2=>SubKeep.refl _⟩
theorem SubsKeep.map {l:List SubD} {f:SubD->SubD} (h:∀ s∈l,SubKeep s (f s)):SubsKeep l (l.map f):=⟨zP,fun i h1 h2=>by rw [Sw];exact h _ (Rv h2)⟩
theorem SubsKeep.st4 (l:List SubD) (n:Nat):SubsKeep l (bB l n 4):=by
 refine⟨by simp [bB],fun i h1 h2=>?_⟩
 simp only [bB,RG]
 split
 ·rename_i e;subst e
  rw [cd h2]
  exact⟨rfl,rfl,rfl,rfl,rfl,.inr rfl⟩
 exact SubKeep.refl _
theorem SubsKeep.old {l m:List SubD} (h:SubsKeep l m) {s:SubD} (hs:s∈m):∃ r∈l,SubKeep r s:=by
 obtain⟨i,hi,rfl⟩:=RC hs
 have:=h.len
 exact⟨l[i],Rv zO,h.at_ i hi zO⟩
theorem SubsKeep.new {l m:List SubD} (h:SubsKeep l m) {s:SubD} (hs:s∈l):∃ r∈m,SubKeep s r:=by
 obtain⟨i,hi,rfl⟩:=RC hs
 have:=h.len
 exact⟨m[i],Rv zO,h.at_ i zO hi⟩
theorem SubsKeep.pw {l m:List SubD} (h:SubsKeep l m) (p:l.Pairwise fun s t=>¬ s.take=t.take):m.Pairwise fun s t=>¬ s.take=t.take:=by
 rw [RA] at p⊢
 have:=h.len
 intro i j hi hj hij
 rw [(h.at_ i hi zO).take,(h.at_ j hj zO).take]
 exact p i j zO zO hij
def HalfKeep (h h':HalfD):Prop:=h.mine=h'.mine/\h.theirs=h'.theirs/\h.take=h'.take/\h.road=h'.road/\h.give=h'.give
theorem HalfKeep.refl (h:HalfD):HalfKeep h h:=⟨rfl,rfl,rfl,rfl,rfl⟩
structure MildA (w w':WorldD):Prop where
 hb:w'.b=w.b
 nums:w'.nums=w.nums
 known:w'.known=w.known
 readB:w'.readB=w.readB
 wroteB:w'.wroteB=w.wroteB
 wroteA:∃ t,w'.wroteA=w.wroteA++t
 ok:OkE w'.a/\w'.a.state=2
 sd:w'.a.side=w.a.side/\w'.a.key=w.a.key/\w'.a.peer=w.a.peer/\w'.a.draw=w.a.draw
 subs:SubsKeep w.a.subs w'.a.subs
 halfs:∀ h'∈w'.a.halfs,∃ h∈w.a.halfs,HalfKeep h h'
 oa:∀ q∈w'.a.own,sideAt q.addr=1
 fa:∀ f∈w'.a.far,sideAt f.addr=2/\Told w.b f.id f.addr
 tl:∀ i d,Told w.a i d->Told w'.a i d
 oia:OutI w'.wroteA w'.a.out
 iia:InI w.wroteB w'.readA w'.a.inp
theorem MildA.put {w w':WorldD} (M:MildA w w') (C:Core w):PutA w w':=by
 obtain⟨d1,d2,d3,d4⟩:=M.sd
 refine⟨M.hb,M.nums,M.known,M.readB,M.wroteB,M.wroteA,M.ok.1,M.ok.2,d1.trans C.sia,d2,d3,by rw [d4];exact⟨C.da.1,Rx _⟩,fun s hs=>?_,fun s hs=>?_,M.subs.pw C.sad,fun h hh=>?_,M.oa,M.fa,M.tl,M.oia,M.iia⟩
 ·obtain⟨r,h1,h2⟩:=M.subs.new hs
  exact⟨r,h1,h2.to⟩
 ·obtain⟨r,h1,h2⟩:=M.subs.old hs
  rw [d4];exact h2.subA (C.sa r h1)
 obtain⟨k,h1,h2,h3,h4,h5⟩:=M.halfs h hh
 have S:=C.ha k h1
 refine⟨by rw [d4,<-h2,<-h4];exact S.m4,fun s hs=>?_,by rw [<-h3];exact S.th⟩
 obtain⟨r,g1,g2⟩:=M.subs.old hs
 rw [<-h4,g2.take];exact S.sep r g1
structure MildB (w w':WorldD):Prop where
 ha:w'.a=w.a
 nums:w'.nums=w.nums
 known:w'.known=w.known
 readA:w'.readA=w.readA
 wroteA:w'.wroteA=w.wroteA
 wroteB:∃ t,w'.wroteB=w.wroteB++t
 ok:OkE w'.b/\w'.b.state=2
 sd:w'.b.side=w.b.side/\w'.b.key=w.b.key/\w'.b.peer=w.b.peer/\w'.b.draw=w.b.draw
 subs:SubsKeep w.b.subs w'.b.subs
 halfs:w'.b.halfs.Sublist w.b.halfs
 ob:∀ q∈w'.b.own,sideAt q.addr=2
 fb:∀ f∈w'.b.far,sideAt f.addr=1/\Told w.a f.id f.addr
 tl:∀ i d,Told w.b i d->Told w'.b i d
 oib:OutI w'.wroteB w'.b.out
 iib:InI w.wroteA w'.readB w'.b.inp
theorem MildB.put {w w':WorldD} (M:MildB w w') (C:Core w):PutB w w':=by
 obtain⟨d1,d2,d3,d4⟩:=M.sd
 refine⟨M.ha,M.nums,M.known,M.readA,M.wroteA,M.wroteB,M.ok.1,M.ok.2,d1.trans C.sib,d2,d3,by rw [d4];exact⟨C.db.1,Rx _⟩,fun s hs=>?_,fun s hs=>?_,fun h hh=>?_,C.hbd.sublist M.halfs,fun h hh=>.inr ⟨h,M.halfs.subset hh,rfl,rfl,rfl,rfl⟩,M.ob,M.fb,M.tl,M.oib,M.iib⟩
 ·obtain⟨r,h1,h2⟩:=M.subs.new hs
  exact⟨r,h1,h2.road,h2.take,h2.give⟩
 ·obtain⟨r,h1,h2⟩:=M.subs.old hs
  rw [d4];exact h2.subB (C.sb r h1)
 have S:=C.hb h (M.halfs.subset hh)
 refine⟨by rw [d4];exact S.m4,fun s hs=>?_,S.th⟩
 obtain⟨r,g1,g2⟩:=M.subs.old hs
 rw [g2.take];exact S.sep r g1
def tL (W:List UInt8) (n k:Nat):List UInt8:=(W.drop n).take k
theorem AY (W:List UInt8) (n k m:Nat):tL W n k++tL W (n+k) m=tL W n (k+m):=by
 rw [tL,tL,tL,List.take_add,Sm]
theorem K0 (W:List UInt8) (n k j:Nat):(tL W n k).take j=tL W n (min j k):=by rw [tL,tL,List.take_take]
theorem xk (W:List UInt8) (n k j:Nat):(tL W n k).drop j=tL W (n+j) (k - j):=by
 rw [tL,tL,List.drop_take,Sm]
theorem AZ {W:List UInt8} {n k:Nat} (h:n+k<=W.length):(tL W n k).length=k:=by
 rw [tL,RM,RE];omega
theorem sB {W t:List UInt8} {n:Nat}:Slice W (n:Int) t↔n+t.length<=W.length/\t=tL W n t.length:=by
 rw [Slice,Ry]
 constructor
 ·rintro⟨_,h1,h2⟩;exact⟨zO,h2⟩
 rintro⟨h1,h2⟩;exact⟨zO,zO,h2⟩
theorem nG {W:List UInt8} {n k:Nat} (h:n+k<=W.length):Slice W (n:Int) (tL W n k):=by
 rw [sB,AZ h];exact⟨h,rfl⟩
theorem Slice.nat {W t:List UInt8} {p:Int} (h:Slice W p t):∃ n k:Nat,p=(n:Int)/\t=tL W n k/\t.length=k/\n+k<=W.length:=by
 obtain⟨n,rfl⟩:=R2 h.1
 obtain⟨h1,h2⟩:=sB.1 h
 exact⟨n,t.length,rfl,h2,rfl,h1⟩
theorem Slice.drop {W t:List UInt8} {p:Int} (h:Slice W p t) {d:Nat} (hd:d<=t.length):Slice W (p+(d:Int)) (t.drop d):=by
 obtain⟨n,k,rfl,h2,h3,h4⟩:=h.nat
 rw [h2,xk,show (n:Int)+(d:Int)=((n+d:Nat):Int) by omega]
 exact nG zO
theorem Dg {W:List UInt8} {a b:PieceD} (ha:Slice W a.pos a.text) (hb:Slice W b.pos b.text) (h1:b.pos<=a.pos+(a.text.length:Int)) (h2:a.pos<=b.pos+(b.text.length:Int)):Slice W (ie a b).pos (ie a b).text:=by
 obtain⟨n,k,e1,e2,e3,e4⟩:=ha.nat
 obtain⟨m,j,f1,f2,f3,f4⟩:=hb.nat
 rw [e3,e1,f1] at h1
 rw [f3,e1,f1] at h2
 rw [ie];split
 ·rename_i hlt
  rw [e1,f1] at hlt
  dsimp only
  rw [e1,f1,e2,f2,AZ e4,show ((n:Int) - (m:Int)).toNat=n - m by omega,K0,xk,show min (n - m) j=n - m by omega]
  have g:tL W m (n - m)++tL W n k++tL W (m+(n - m+k)) (j - (n - m+k))=tL W m (n - m+k+(j - (n - m+k))):=by
   have h3:=AY W m (n - m) k
   rw [show m+(n - m)=n by omega] at h3
   rw [h3,AY]
  rw [g]
  exact nG zO
 rename_i hge
 rw [e1,f1] at hge
 dsimp only
 rw [e1,f1,e2,f2,AZ e4,show ((n:Int)+(k:Int) - (m:Int)).toNat=n+k - m by omega,xk,show m+(n+k - m)=n+k by omega,AY]
 exact nG zO
structure PpW (W:List UInt8) (g:PpS):Prop where
 own:Slice W g.own.pos g.own.text
 acc:∀ z∈g.acc,Slice W z.pos z.text
theorem qx {α:Type} {l:List α} {x:α} {P:α->Prop} (hl:∀ z∈l,P z) (hx:P x):∀ z∈l++[x],P z:=fun z hz=>by
 rcases Rz.1 hz with hz|hz
 ·exact hl z hz
 rw [Rw.1 hz];exact hx
theorem K1 {W:List UInt8} {g:PpS} {x:PieceD} (h:PpW W g) (hx:Slice W x.pos x.text):PpW W (jK g x):=by
 rw [jK];split
 ·exact⟨h.own,qx h.acc hx⟩
 split
 ·refine⟨h.own,qx ?_ hx⟩
  split
  ·exact h.acc
  exact qx h.acc h.own
 exact⟨Dg hx h.own zO zO,h.acc⟩
theorem K2 {W:List UInt8}:∀ {l:List PieceD} {g:PpS},PpW W g->(∀ x∈l,Slice W x.pos x.text)->PpW W (rZ g l)
 |[],g,h,_=>h
 |x::l,g,h,hl=>K2 (l:=l) (K1 h (hl x zP)) fun y hy=>hl y (by simp [hy])
theorem Na {W:List UInt8} {g:PpS} (h:PpW W g):∀ z∈kG g,Slice W z.pos z.text:=by
 rw [kG];split
 ·exact h.acc
 exact qx h.acc h.own
theorem InI.next {W R:List UInt8} {p:PiecesD} (h:InI W R p) (F:FineP p):nextOf p=((R.length+p.ready.length:Nat):Int):=by
 rw [F.next,h.read];omega
theorem GQ {W R:List UInt8} {p:PiecesD} {n:Int} {t:List UInt8} (h:InI W R p) (F:FineP p) (ht:Slice W n t):InI W R (mw p n t):=by
 have hA:=Na (K2 (l:=p.list) (g:=⟨⟨n,t⟩,false,[]⟩) ⟨ht,fun z hz=>by simp at hz⟩ h.list)
 rw [mw]
 generalize kG (rZ ⟨⟨n,t⟩,false,[]⟩ p.list)=l at hA
 rw [lU];split
 ·rw [oe];split
  ·rename_i he
   cases l with
   |nil=>
    obtain⟨T,hT⟩:=h.pre
    have e:(default:PieceD).text=[]:=rfl
    exact⟨h.read,⟨T,by rw [List.headD_nil,e,RQ];exact hT⟩,fun z hz=>by simp at hz⟩
   |cons y r=>
    rw [SH] at he⊢
    refine⟨h.read,?_,fun z hz=>hA z (RY _ hz)⟩
    have hy:=hA y zP
    rw [he,h.next F] at hy
    obtain⟨h1,h2⟩:=sB.1 hy
    obtain⟨T,hT⟩:=h.pre
    have hd:W.drop (R.length+p.ready.length)=T:=by
     rw [hT,R3 zP]
     simp
    refine⟨T.drop y.text.length,?_⟩
    rw [tL,hd] at h2
    dsimp only
    rw [hT]
    have:T=y.text++T.drop y.text.length:=by
     conv=>lhs;rw [<-R5 y.text.length T]
     rw [<-h2]
    conv=>lhs;rw [this]
    simp
  exact⟨h.read,h.pre,hA⟩
 exact h
theorem xl {W R:List UInt8} {p:PiecesD} {n:Int} {t:List UInt8} (h:InI W R p) (hs:SmallP p) (ht:Slice W n t):InI W R (putPiece p n t):=by
 rw [putPiece];split
 ·rename_i hk
  simp only [xP,Ru] at hk
  have F:=cI hk.1.1 hs
  split
  ·exact h
  split
  ·have hd:=ht.drop (d:=(nextOf p - n).toNat) zO
   rw [show n+((nextOf p - n).toNat:Int)=nextOf p by omega] at hd
   exact GQ h F hd
  exact GQ h F ht
 exact h
theorem K3 {W R:List UInt8} {p:PiecesD} {m:Int} (h:InI W R p):InI W (R++(bs p m).2) (bs p m).1:=by
 rw [bs];split
 ·obtain⟨T,hT⟩:=h.pre
  refine⟨?_,⟨T,?_⟩,h.list⟩
  ·dsimp only
   rw [h.read]
   have:yQ p m<=p.ready.length:=Sx _ _
   simp only [RD,RM]
   omega
  dsimp only
  rw [hT]
  conv=>lhs;rw [<-R5 (yQ p m) p.ready]
  simp
 dsimp only
 rw [RQ];exact h
theorem Dh {W:List UInt8} {o:OutD} {t:List UInt8} (h:OutI W o):OutI (W++t.take (dh o t).2) (dh o t).1:=by
 rw [dh];split
 ·refine⟨⟨h.base.1,?_⟩,?_⟩
  ·have:=h.base.2
   have h2:=Am o t
   simp only [RD,RM]
   omega
  dsimp only
  have:=h.base
  rw [R3 zO,<-h.text]
 dsimp only
 rw [List.take_zero,RQ];exact h
theorem K4 {W:List UInt8} {o:OutD} {n:Int} (h:OutI W o):OutI W (came o n):=by
 rw [came];split
 ·rename_i hc
  obtain⟨h0,h1,h2⟩:=hc
  have F:=dp h0
  obtain⟨a1,a2,a3,a4⟩:=F
  rw [Ei zO] at h2
  have hb:=h.base
  refine⟨⟨by dsimp only;omega,?_⟩,?_⟩
  ·simp only [RE];omega
  dsimp only
  rw [h.text,Sm]
  congr 1
  omega
 exact h
theorem Di {W:List UInt8} {o o':OutD} (h:OutI W o) (h1:o'.base=o.base) (h2:o'.text=o.text):OutI W o':=⟨by rw [h1,h2];exact h.base,by rw [h1,h2];exact h.text⟩
theorem zk {W:List UInt8} {o:OutD} (h:OutI W o):OutI W (iJ o):=by
 rw [iJ];split
 ·exact Di h rfl rfl
 exact h
theorem K5 {W:List UInt8} {o:OutD} (h:OutI W o):OutI W (jL o):=by
 rw [jL];split
 ·exact Di h rfl rfl
 exact h
theorem qy {W:List UInt8} {o:OutD} (h:OutI W o) (ho:outOk o=true):Slice W o.sent (dV o):=by
 obtain⟨a1,a2,a3,a4⟩:=dp ho
 obtain⟨n,hn⟩:=R2 (show 0<=o.sent by omega)
 have hb:=h.base
 have e:dV o=tL W n (min 20 (W.length - n)):=by
  rw [dV,h.text,Sm,tL,show o.base.toNat+(o.sent - o.base).toNat=n by omega]
  rw [List.take_eq_take_iff]
  simp only [RE]
  omega
 rw [e,hn]
 exact nG zO
def h_ (w:WorldD) (e:EndD):WorldD:={ w with a:=e }
def inB (w:WorldD) (e:EndD):WorldD:={ w with b:=e }
structure Step (w w':WorldD) (l:List LetterD):Prop where
 c:Core w'
 le:Le w w'
 post:∀ x∈l,Post w' x
theorem PutA.step {w w':WorldD} {l:List LetterD} (P:PutA w w') (C:Core w) (h:Core w'->∀ x∈l,Post w' x):Step w w' l:=⟨P.core C,P.le,h (P.core C)⟩
theorem PutB.step {w w':WorldD} {l:List LetterD} (P:PutB w w') (C:Core w) (h:Core w'->∀ x∈l,Post w' x):Step w w' l:=⟨P.core C,P.le,h (P.core C)⟩
theorem dX {w:WorldD}:∀ x∈([]:List LetterD),Post w x:=fun x hx=>by simp at hx
theorem dY {w:WorldD} {y:LetterD} (h:Post w y):∀ x∈[y],Post w x:=fun x hx=>by rw [Rw.1 hx];exact h
def t_ (k:Int):Prop:=k=1\/k=2\/k=3\/k=9\/k=10\/k=12\/k=13
theorem nI {w:WorldD} {x:LetterD} (hk:t_ x.kind) (hs:¬ sideAt x.to=0):Post w x:=by
 simp only [t_] at hk
 refine⟨.inr ?_,fun h=>absurd h hs⟩
 constructor<;>(intro _ h;omega)
theorem MildA.refl {w:WorldD} (C:Core w):MildA w w:=⟨rfl,rfl,rfl,rfl,rfl,⟨[],zP⟩,⟨C.oka,C.sta⟩,⟨rfl,rfl,rfl,rfl⟩,SubsKeep.refl _,fun h hh=>⟨h,hh,HalfKeep.refl h⟩,C.oa,C.fa,fun _ _ h=>h,C.oia,C.iia⟩
theorem MildB.refl {w:WorldD} (C:Core w):MildB w w:=⟨rfl,rfl,rfl,rfl,rfl,⟨[],zP⟩,⟨C.okb,C.stb⟩,⟨rfl,rfl,rfl,rfl⟩,SubsKeep.refl _,List.Sublist.refl _,C.ob,C.fb,fun _ _ h=>h,C.oib,C.iib⟩
theorem GR {w:WorldD} (C:Core w) {s:SubD} (hs:s∈w.a.subs):¬ Loose w.nums s.take:=fun h=>by
 have S:=C.sa s hs
 rcases h with h|h
 ·have:=S.t4;omega
 exact S.tn h
theorem GS {w:WorldD} (C:Core w) {s:SubD} (hs:s∈w.a.subs) (h0:1000<=s.mine):¬ Loose w.nums s.mine:=fun h=>by
 have S:=C.sa s hs
 rcases h with h|h
 ·omega
 rcases S.mine with g|⟨_,g⟩
 ·omega
 exact g h
theorem Nb {w:WorldD} (C:Core w) {t:SubD} (ht:t∈w.b.subs):¬ Loose w.nums t.take:=fun h=>by
 have S:=C.sb t ht
 rcases h with h|h
 ·have:=S.t4;omega
 exact S.tn h
theorem farB {w:WorldD} (C:Core w) {t:SubD} (ht:t∈w.b.subs):sideAt t.road.far=1/\sideAt t.road.own=2:=by
 obtain⟨s,h1,_,h3,_,_⟩:=(C.sb t ht).like
 have S:=C.sa s h1
 have g1:=S.own
 have g2:=S.far
 rw [h3] at g1 g2
 exact⟨g1,g2⟩
theorem K6 {w:WorldD} {x:LetterD} (C:Core w) (G:SmallP w.a.inp) (L:LetI w x) (hx:sideAt x.to=1):Step w (h_ w (bO w.a x).1) (bO w.a x).2:=by
 have ok:=lG (x:=x) C.oka C.sta
 have M0:=MildA.refl C
 have keep:Step w (h_ w w.a) []:=(M0.put C).step C fun _=>dX
 have hk:=bO (e:=w.a) (x:=x)
 by_cases hc:dD w.a x=true
 case neg=>rw [oM (by simpa using hc)];exact keep
 by_cases k1:x.kind=1
 ·rw [r_ hc k1,aV,if_neg]
  ·exact keep
  simp only [gO,Ru,decide_eq_true_eq];have:=C.sta;omega
 by_cases k2:x.kind=2
 ·rw [se hc k2,bC,if_neg]
  ·exact keep
  simp only [jI,Ru,decide_eq_true_eq];have:=C.sta;omega
 by_cases k4:x.kind=4
 ·rw [vP hc k4] at ok⊢
  have hL:=L.a4 hx k4
  have ans:∀ (w':WorldD) (h:HalfD),Core w'->h∈w'.a.halfs->w'.a.key=w.a.key->w'.b.key=w.b.key->w'.b.draw=w.b.draw->Post w' (dg w.a (roadOf x) h):=by
   intro w' h C' hh e1 e2 e3
   have H:=C'.ha h hh
   have hm:=H.m4
   refine⟨.inr ?_,fun h0=>⟨rfl,H.th,rfl,fun s hs=>?_,fun t ht=>?_,fun k hk hq=>?_,⟨by simp only [dg,aq];omega,by simp only [dg,aq];omega⟩,fun n hn=>?_⟩⟩
   ·constructor<;>(intro q1 q2;simp only [dg,aq,ac] at q2;try omega)
    intro m hm'
    simp only [dg,aq] at hm'
    have:=congrArg TagD.one hm'
    dsimp only at this
    exact absurd (this.symm.trans e1.symm) (fun hc=>C'.kk (by rw [<-hc]))
   ·have S:=C'.sa s hs
    have h1:=H.sep s hs
    have t4:=S.t4
    simp only [dg,aq]
    refine⟨by rw [hm.2.2.2] at h1⊢;exact h1,zO,?_⟩
    rcases S.mine with g|⟨g,_⟩
    ·exact .inl g
    exact .inr ⟨zO,zO⟩
   ·have t4:=(C'.sb t ht).t4
    simp only [dg,aq]
    omega
   ·have m4:=(C'.hb k hk).m4
    simp only [dg,aq] at hq
    omega
   simp only [dg,aq] at hn
   constructor<;>intro _<;>omega
  unfold cj at ok⊢
  split at ok
  case isFalse hk=>rw [if_neg hk];exact keep
  rename_i hk
  rw [if_pos hk]
  split at ok
  ·rename_i hs
   rw [if_pos hs]
   simp only [fd,Ru,decide_eq_true_eq] at hs
   obtain⟨n,e1,hn,_⟩:=lE hs.1.1
   have M:MildA w (h_ w { w.a with bucket:=(cK w.a.bucket).1,halfs:=w.a.halfs.set (bU w.a.halfs (roadOf x)).toNat { p_ w.a x with till:=w.a.now+6 } }):=by
    refine⟨rfl,rfl,rfl,rfl,rfl,⟨[],by simp [h_]⟩,ok,⟨rfl,rfl,rfl,rfl⟩,SubsKeep.refl _,fun h hh=>?_,C.oa,C.fa,fun _ _ h=>h,C.oia,C.iia⟩
    rcases RB hh with hh|hh
    ·exact⟨h,hh,HalfKeep.refl h⟩
    rw [hh,p_,e1,Ry,eJ hn]
    exact⟨_,Rv hn,rfl,rfl,rfl,rfl,rfl⟩
   refine (M.put C).step C fun C'=>dY ?_
   have hj:p_ w.a x=w.a.halfs[n]:=by rw [p_,e1,Ry,eJ hn]
   have:=ans _ { p_ w.a x with till:=w.a.now+6 } C' (by
    dsimp only [h_]
    rw [e1,Ry]
    exact R0 hn _) rfl rfl rfl
   exact this
  rename_i hs
  rw [if_neg hs]
  simp only [mu,Ru,decide_eq_true_eq,df] at hk
  have hd:=hk.1.1.2
  have da:=C.da
  have hput:∀ h∈(bF w.a.halfs (aw w.a x)).1,h=aw w.a x\/h∈w.a.halfs:=by
   intro h hh
   rw [bF] at hh;split at hh
   ·dsimp only at hh
    rw [cS] at hh;split at hh
    ·rcases RB hh with hh|hh
     ·exact .inr hh
     exact .inl hh
    rcases Rz.1 hh with hh|hh
    ·exact .inr hh
    exact .inl (Rw.1 hh)
   exact .inr hh
  have P:PutA w (h_ w { w.a with bucket:=(cK w.a.bucket).1,draw:=w.a.draw+4,halfs:=(bF w.a.halfs (aw w.a x)).1 }):=by
   refine⟨rfl,rfl,rfl,rfl,rfl,⟨[],by simp [h_]⟩,ok.1,ok.2,C.sia,rfl,rfl,⟨by dsimp only [h_];omega,by dsimp only [h_];omega⟩,fun s hs=>⟨s,hs,SubTo.refl s⟩,fun s hs=>?_,C.sad,fun h hh=>?_,C.oa,C.fa,fun _ _ h=>h,C.oia,C.iia⟩
   ·have S:=C.sa s hs
    exact⟨by have:=S.t4;dsimp only [h_];omega,S.tn,S.mine,S.own,S.far,S.th,S.on,S.ask⟩
   rcases hput h hh with rfl|hh
   ·refine⟨⟨by simp only [aw];omega,by simp only [aw];omega,by simp only [aw,h_];omega,by simp only [aw]⟩,fun s hs=>?_,hL⟩
    have:=(C.sa s hs).t4
    simp only [aw]
    omega
   have S:=C.ha h hh
   exact⟨by have:=S.m4;dsimp only [h_];omega,S.sep,S.th⟩
  refine P.step C fun C'=>dY ?_
  by_cases hin:aw w.a x∈(bF w.a.halfs (aw w.a x)).1
  ·exact ans _ _ C' hin rfl rfl rfl
  refine⟨.inr ?_,fun h0=>⟨rfl,hL,rfl,fun s hs=>?_,fun t ht=>?_,fun k hk hq=>?_,⟨by simp only [dg,aq,aw];omega,by simp only [dg,aq,aw];omega⟩,fun n hn=>?_⟩⟩
  ·constructor<;>(intro q1 q2;simp only [dg,aq,ac] at q2;try omega)
   intro m hm'
   simp only [dg,aq] at hm'
   have:=congrArg TagD.one hm'
   dsimp only [h_] at this
   exact absurd this C.kk
  ·have S:=C.sa s hs
   have t4:=S.t4
   simp only [dg,aq,aw]
   refine⟨zO,zO,?_⟩
   rcases S.mine with g|⟨g,_⟩
   ·exact .inl g
   exact .inr ⟨zO,zO⟩
  ·have t4:=(C.sb t ht).t4
   simp only [dg,aq,aw]
   omega
  ·have m4:=(C.hb k hk).m4
   simp only [dg,aq,aw] at hq
   omega
  simp only [dg,aq,aw] at hn
  dsimp only [h_]
  constructor<;>intro _<;>omega
 by_cases k5:x.kind=5
 ·rw [vQ hc k5] at ok⊢
  unfold aW at ok⊢
  split at ok
  case isFalse hk=>rw [if_neg hk];exact keep
  rename_i hk
  rw [if_pos hk]
  simp only [rT,Ru,decide_eq_true_eq] at hk
  obtain⟨⟨⟨⟨⟨q1,q2⟩,q3⟩,q4⟩,q5⟩,q6⟩:=hk
  obtain⟨n,e1,hn,_,hrd,_⟩:=kK q4
  rw [e1,Ry,cd hn] at q5 q6 ok⊢
  rw [C.pa] at q6
  have hs:=Rv hn
  obtain⟨s,es⟩:∃ s,w.a.subs[n]=s:=⟨_,rfl⟩
  rw [es] at q5 q6 hs hrd ok⊢
  have S:=C.sa s hs
  have h1000:=S.ask (.inl q5)
  have hf:x.nonce < w.b.draw/\∀ h∈w.b.halfs,h.mine=x.nonce->h.theirs=s.mine/\h.take=x.give/\h.road=bk (roadOf x):=by
   rcases L.a5 hx k5 s.mine q6 with g|g
   ·exact absurd g (GS C hs h1000)
   exact g
  have hat:∀ (i:Nat) (h1:i < (w.a.subs.set n (eD s x)).length) (h2:i < w.a.subs.length),SubTo w.a.subs[i] (w.a.subs.set n (eD s x))[i]/\((w.a.subs.set n (eD s x))[i]=eD s x\/(w.a.subs.set n (eD s x))[i]=w.a.subs[i]):=by
   intro i h1 h2
   rw [RG]
   split
   ·rename_i e;subst e
    rw [es]
    exact⟨⟨rfl,rfl,rfl,fun h=>absurd q5 h⟩,.inl rfl⟩
   exact⟨SubTo.refl _,.inr rfl⟩
  have hmem:eD s x∈w.a.subs.set n (eD s x):=R0 hn _
  have P:PutA w (h_ w { w.a with subs:=w.a.subs.set n (eD s x) }):=by
   refine⟨rfl,rfl,rfl,rfl,rfl,⟨[],by simp [h_]⟩,ok.1,ok.2,C.sia,rfl,rfl,⟨C.da.1,Rx _⟩,fun r hr=>?_,fun r hr=>?_,?_,fun h hh=>?_,C.oa,C.fa,fun _ _ h=>h,C.oia,C.iia⟩
   ·obtain⟨i,hi,rfl⟩:=RC hr
    exact⟨_,Rv (by simpa [h_] using hi),(hat i (by simpa using hi) hi).1⟩
   ·rcases RB hr with hr|hr
    ·exact C.sa r hr
    rw [hr]
    refine⟨S.t4,S.tn,S.mine,S.own,S.far,⟨hf.1,fun h hh hm=>?_⟩,fun h3=>by simp [eD] at h3,fun _=>h1000⟩
    obtain⟨g1,g2,g3⟩:=hf.2 h hh hm
    rw [<-hrd] at g3
    exact⟨g1,g2,g3⟩
   ·have p:=C.sad
    rw [RA] at p⊢
    intro i j hi hj hij
    dsimp only [h_] at hi hj⊢
    have hi':i < w.a.subs.length:=by simpa using hi
    have hj':j < w.a.subs.length:=by simpa using hj
    rw [(hat i hi hi').1.take,(hat j hj hj').1.take]
    exact p i j hi' hj' hij
   have H:=C.ha h hh
   refine⟨H.m4,fun r hr=>?_,H.th⟩
   rcases RB hr with hr|hr
   ·exact H.sep r hr
   rw [hr];exact H.sep s hs
  refine P.step C fun C'=>dY ⟨.inr ?_,fun h0=>?_⟩
  ·constructor<;>(intro p1 p2;simp only [ci,aq,ac] at p2;try omega)
   ·intro m n hm
    have:sideAt s.road.far=1:=p1
    have:=S.far
    omega
   intro m n hm
   simp only [ci,aq,h_] at hm
   injection hm with _ _ _ hm hn'
   exact⟨eD s x,hmem,by simp [eD],h1000,hm.symm,hn'.symm,rfl⟩
  have:sideAt s.road.far=0:=h0
  have:=S.far
  omega
 by_cases k6:x.kind=6
 ·rw [vR hc k6]
  have hno:=L.a6 hx k6
  have hA:tZ w.a x=false:=by
   cases hj:tZ w.a x with
   |false=>rfl
   |true=>
    simp only [tZ,Ru,decide_eq_true_eq] at hj
    rw [C.pa] at hj
    exact absurd hj.2 (hno _ _)
  have hB:HS w.a x=false:=by
   cases hj:HS w.a x with
   |false=>rfl
   |true=>
    simp only [HS,Ru,decide_eq_true_eq] at hj
    rw [C.pa] at hj
    exact absurd hj.2 (hno _ _)
  by_cases hI:pZ w.a x=true
  ·rw [J9 hI hA hB];exact keep
  rw [Ok (by simpa using hI)];exact keep
 by_cases k7:x.kind=7
 ·rw [vS hc k7] at ok⊢
  unfold bg at ok⊢
  dsimp only at ok⊢
  split at ok
  case isFalse hk=>rw [if_neg hk];exact keep
  rename_i hk
  rw [if_pos hk]
  simp only [lQ,Ru,decide_eq_true_eq] at hk
  obtain⟨⟨⟨⟨q1,q2⟩,q3⟩,q4⟩,q5⟩:=hk
  obtain⟨n,e1,hn,_,hr,_⟩:=kK q3
  rw [e1,Ry] at q4 q5 ok⊢
  rw [cd hn] at q4 q5
  rw [eO hn] at ok⊢
  obtain⟨s,es⟩:∃ s,w.a.subs[n]=s:=⟨_,rfl⟩
  have hs:=Rv hn
  rw [es] at q4 q5 hs hr ok⊢
  have S:=C.sa s hs
  have hon:∃ t∈w.b.subs,t.road=bk s.road/\t.take=s.give/\t.give=s.take:=by
   rcases L.a7 hx k7 with g|⟨t,g1,g2⟩
   ·rw [<-q5] at g;exact absurd g (GR C hs)
   obtain⟨r,r1,r2,r3,r4,r5⟩:=(C.sb t g1).like
   have:r=s:=kL C.sad r1 hs (by rw [r4,g2,q5])
   subst this
   exact⟨t,g1,by rw [r3];rfl,r5.symm,r4.symm⟩
  have hat:∀ (i:Nat) (h1:i < (w.a.subs.set n { s with state:=3 }).length) (h2:i < w.a.subs.length),SubTo w.a.subs[i] (w.a.subs.set n { s with state:=3 })[i]:=by
   intro i h1 h2
   rw [RG]
   split
   ·rename_i e;subst e
    rw [es]
    exact⟨rfl,rfl,rfl,fun h=>⟨zP,rfl,rfl⟩⟩
   exact SubTo.refl _
  refine PutA.step ⟨rfl,rfl,rfl,rfl,rfl,⟨[],by simp [h_]⟩,ok.1,ok.2,C.sia,rfl,rfl,⟨C.da.1,Rx _⟩,fun r hr=>?_,fun r hr=>?_,?_,fun h hh=>?_,C.oa,C.fa,fun _ _ h=>h,C.oia,C.iia⟩ C fun _=>dX
  ·obtain⟨i,hi,rfl⟩:=RC hr
   exact⟨_,Rv (by simpa [h_] using hi),hat i (by simpa using hi) hi⟩
  ·rcases RB hr with hr|hr
   ·exact C.sa r hr
   rw [hr]
   exact⟨S.t4,S.tn,S.mine,S.own,S.far,S.th,fun _=>hon,fun h=>by simp at h⟩
  ·have p:=C.sad
   rw [RA] at p⊢
   intro i j hi hj hij
   dsimp only [h_] at hi hj⊢
   have hi':i < w.a.subs.length:=by simpa using hi
   have hj':j < w.a.subs.length:=by simpa using hj
   rw [(hat i hi hi').take,(hat j hj hj').take]
   exact p i j hi' hj' hij
  have H:=C.ha h hh
  refine⟨H.m4,fun r hr=>?_,H.th⟩
  rcases RB hr with hr|hr
  ·exact H.sep r hr
  rw [hr];exact H.sep s hs
 by_cases k8:x.kind=8
 ·rw [vT hc k8] at ok⊢
  unfold cF at ok⊢
  split at ok
  case isFalse hk=>rw [if_neg hk];exact keep
  rename_i hk
  rw [if_pos hk]
  simp only [je,Ru,decide_eq_true_eq] at hk
  obtain⟨⟨⟨⟨q1,q2⟩,_⟩,_⟩,_⟩:=hk
  rw [C.pa] at q2
  obtain⟨t1,t2⟩:=L.a8 hx k8 _ _ q2
  obtain⟨n,e1,_,hn,_,_,hr,_⟩:=AX q1
  refine PutA.step (MildA.put ⟨rfl,rfl,rfl,rfl,rfl,⟨[],by simp [h_]⟩,ok,⟨rfl,rfl,rfl,rfl⟩,SubsKeep.refl _,fun h hh=>⟨h,hh,HalfKeep.refl h⟩,C.oa,fun f hf=>?_,fun _ _ h=>h,C.oia,C.iia⟩ C) C fun C'=>dY (nI (by simp [t_,ti,aq]) ?_)
  ·rcases gz hf with rfl|hf
   ·exact⟨t1,t2⟩
   exact C.fa f hf
  show ¬ sideAt (roadOf x).far=0
  rw [<-hr]
  have:=(C.sa _ (Rv hn)).far
  omega
 by_cases k9:x.kind=9
 ·rw [vU hc k9] at ok⊢
  unfold cG at ok⊢
  dsimp only at ok⊢
  split at ok
  case isFalse hk=>rw [if_neg hk];exact keep
  rename_i hk
  rw [if_pos hk]
  simp only [iv,Ru,decide_eq_true_eq] at hk
  obtain⟨n,e1,hn,_⟩:=lF hk.1.2
  rw [e1,Ry,fD hn] at ok⊢
  refine PutA.step (MildA.put ⟨rfl,rfl,rfl,rfl,rfl,⟨[],by simp [h_]⟩,ok,⟨rfl,rfl,rfl,rfl⟩,SubsKeep.refl _,fun h hh=>⟨h,hh,HalfKeep.refl h⟩,fun q hq=>?_,C.fa,fun i d h=>?_,C.oia,C.iia⟩ C) C fun _=>dX
  ·rcases RB hq with hq|hq
   ·exact C.oa q hq
   rw [hq];exact (show sideAt w.a.own[n].addr=1 from C.oa _ (Rv hn))
  rcases h with⟨q,h1,h2,h3⟩|h
  ·obtain⟨j,hj,rfl⟩:=RC h1
   by_cases hjn:n=j
   ·subst hjn
    exact .inl ⟨_,R0 hn _,h2,h3⟩
   refine .inl ⟨w.a.own[j],?_,h2,h3⟩
   dsimp only [h_]
   rw [R7]
   exact⟨j,by simpa using hj,by rw [SC hjn]⟩
  exact .inr h
 by_cases k10:x.kind=10
 ·rw [nq hc k10] at ok⊢
  unfold cH at ok⊢
  dsimp only at ok⊢
  split at ok
  case isFalse hk=>rw [if_neg hk];exact keep
  rename_i hk
  rw [if_pos hk]
  refine PutA.step (MildA.put ⟨rfl,rfl,rfl,rfl,rfl,⟨[],by simp [h_]⟩,ok,⟨rfl,rfl,rfl,rfl⟩,SubsKeep.map fun s hs=>?_,fun h hh=>⟨h,hh,HalfKeep.refl h⟩,C.oa,fun f hf=>C.fa f (g0 hf),fun _ _ h=>h,C.oia,C.iia⟩ C) C fun _=>dX
  rw [lS];split
  ·exact⟨rfl,rfl,rfl,rfl,rfl,.inr rfl⟩
  exact SubKeep.refl s
 by_cases k11:x.kind=11
 ·rw [qd hc k11] at ok⊢
  unfold cJ at ok⊢
  split at ok
  case isFalse hk=>rw [if_neg hk];exact keep
  rename_i hk
  rw [if_pos hk]
  simp only [mz,Ru,decide_eq_true_eq] at hk
  obtain⟨n,e1,_,hn,_,ht,hr,_⟩:=AX hk.1
  have hsl:Slice w.wroteB x.pos x.text:=by
   rcases L.a11 hx k11 with g|g
   ·rw [<-ht] at g;exact absurd g (GR C (Rv hn))
   exact g
  refine PutA.step (MildA.put ⟨rfl,rfl,rfl,rfl,rfl,⟨[],by simp [h_]⟩,ok,⟨rfl,rfl,rfl,rfl⟩,SubsKeep.refl _,fun h hh=>⟨h,hh,HalfKeep.refl h⟩,C.oa,C.fa,fun _ _ h=>h,C.oia,xl C.iia G hsl⟩ C) C fun C'=>dY (nI (by simp [t_,vM,aq]) ?_)
  show ¬ sideAt (roadOf x).far=0
  rw [<-hr]
  have:=(C.sa _ (Rv hn)).far
  omega
 by_cases k12:x.kind=12
 ·rw [qe hc k12] at ok⊢
  unfold cv at ok⊢
  dsimp only at ok⊢
  split at ok
  case isFalse hk=>rw [if_neg hk];exact keep
  rename_i hk
  rw [if_pos hk]
  exact PutA.step (MildA.put ⟨rfl,rfl,rfl,rfl,rfl,⟨[],by simp [h_]⟩,ok,⟨rfl,rfl,rfl,rfl⟩,SubsKeep.refl _,fun h hh=>⟨h,hh,HalfKeep.refl h⟩,C.oa,C.fa,fun _ _ h=>h,K4 C.oia,C.iia⟩ C) C fun _=>dX
 by_cases k13:x.kind=13
 ·rw [nr hc k13] at ok⊢
  unfold bW at ok⊢
  dsimp only at ok⊢
  split at ok
  case isFalse hk=>rw [if_neg hk];exact keep
  rename_i hk
  rw [if_pos hk]
  exact PutA.step (MildA.put ⟨rfl,rfl,rfl,rfl,rfl,⟨[],by simp [h_]⟩,ok,⟨rfl,rfl,rfl,rfl⟩,SubsKeep.st4 _ _,fun h hh=>⟨h,hh,HalfKeep.refl h⟩,C.oa,C.fa,fun _ _ h=>h,C.oia,C.iia⟩ C) C fun _=>dX
 rw [Ai fun k hk=>by omega];exact keep
theorem GT {l:List HalfD} {n:Nat} {q:HalfD} (p:l.Pairwise fun h k=>¬ h.take=k.take) (hq:∀ (i:Nat) (hi:i < l.length),¬ i=n->¬ l[i].take=q.take):(l.set n q).Pairwise fun h k=>¬ h.take=k.take:=by
 rw [RA] at p⊢
 intro i j hi hj hij
 have hi':i < l.length:=by simpa using hi
 have hj':j < l.length:=by simpa using hj
 rw [RG,RG]
 by_cases h1:n=i
 ·rw [if_pos h1,if_neg zO]
  exact fun hc=>hq j hj' zO hc.symm
 rw [if_neg h1]
 by_cases h2:n=j
 ·rw [if_pos h2];exact hq i hi' zO
 rw [if_neg h2];exact p i j hi' hj' hij
theorem K7 {l:List HalfD} (h:l.Pairwise fun s t=>¬ s.take=t.take) {s t:HalfD} (hs:s∈l) (ht:t∈l) (e:s.take=t.take):s=t:=by
 obtain⟨i,hi,rfl⟩:=RC hs
 obtain⟨j,hj,rfl⟩:=RC ht
 rw [RA] at h
 rcases R4 i j with hl|hl|hl
 ·exact absurd e (h i j hi hj hl)
 ·subst hl;rfl
 exact absurd e.symm (h j i hj hi hl)
theorem K8 {w:WorldD} {x:LetterD} (C:Core w) (G:SmallP w.b.inp) (L:LetI w x) (hx:sideAt x.to=2):Step w (inB w (bO w.b x).1) (bO w.b x).2:=by
 have ok:=lG (x:=x) C.okb C.stb
 have M0:=MildB.refl C
 have keep:Step w (inB w w.b) []:=(M0.put C).step C fun _=>dX
 by_cases hc:dD w.b x=true
 case neg=>rw [oM (by simpa using hc)];exact keep
 by_cases k1:x.kind=1
 ·rw [r_ hc k1,aV,if_neg]
  ·exact keep
  simp only [gO,Ru,decide_eq_true_eq];have:=C.stb;omega
 by_cases k2:x.kind=2
 ·rw [se hc k2,bC,if_neg]
  ·exact keep
  simp only [jI,Ru,decide_eq_true_eq];have:=C.stb;omega
 by_cases k4:x.kind=4
 ·rw [vP hc k4] at ok⊢
  have hL:=L.b4 hx k4
  have ans:∀ (w':WorldD) (h:HalfD),Core w'->HalfB w'.nums w'.b.draw w'.a.subs w'.b.subs h->h.road=roadOf x->(∀ k∈w'.b.halfs,k.mine=h.mine->k.theirs=h.theirs/\k.take=h.take/\k.road=h.road)->(∀ k∈w'.b.halfs,k.take=h.take->k.theirs=h.theirs)->w'.a.key=w.a.key->w'.b.key=w.b.key->Post w' (dg w.b (roadOf x) h):=by
   intro w' h C' H hr hone htk e1 e2
   have hm:=H.m4
   refine⟨.inr ?_,fun h0=>?_⟩
   ·constructor<;>(intro q1 q2;simp only [dg,aq,ac] at q2;try omega)
    intro m hm'
    simp only [dg,aq] at hm'
    injection hm' with _ _ _ _ hb
    refine .inr ⟨by simp only [dg,aq];omega,fun k hk hkm=>?_⟩
    obtain⟨g1,g2,g3⟩:=hone k hk hkm
    exact⟨by rw [g1,hb],g2,by rw [g3,hr];rfl⟩
   have hth:Loose w'.nums h.theirs:=by
    rcases H.th with g|⟨_,s,s1,_,_,_,s5⟩
    ·exact g
    have:=(C'.sa s s1).own
    rw [s5,hr] at this
    have h0':sideAt (roadOf x).far=0:=h0
    have:sideAt (roadOf x).far=1:=this
    omega
   refine⟨rfl,hth,rfl,fun s hs=>?_,fun t ht=>?_,fun k hk hq=>?_,⟨by simp only [dg,aq];omega,by simp only [dg,aq];omega⟩,fun n hn=>?_⟩
   ·have S:=C'.sa s hs
    have t4:=S.t4
    simp only [dg,aq]
    refine⟨zO,zO,?_⟩
    rcases S.mine with g|⟨g,_⟩
    ·exact .inl g
    exact .inr ⟨zO,zO⟩
   ·have t4:=(C'.sb t ht).t4
    have:=H.sep t ht
    simp only [dg,aq]
    exact⟨this,zO⟩
   ·have m4:=(C'.hb k hk).m4
    simp only [dg,aq] at hq
    rcases hq with hq|hq
    ·rw [htk k hk hq];exact hth
    omega
   simp only [dg,aq] at hn
   constructor<;>intro _<;>omega
  unfold cj at ok⊢
  split at ok
  case isFalse hk=>rw [if_neg hk];exact keep
  rename_i hk
  rw [if_pos hk]
  split at ok
  ·rename_i hs
   rw [if_pos hs]
   simp only [fd,Ru,decide_eq_true_eq] at hs
   obtain⟨n,e1,hn,hrd⟩:=lE hs.1.1
   have hj:p_ w.b x=w.b.halfs[n]:=by rw [p_,e1,Ry,eJ hn]
   rw [hj,e1,Ry] at ok⊢
   obtain⟨q,hq⟩:∃ q,w.b.halfs[n]=q:=⟨_,rfl⟩
   have hqm:=Rv hn
   rw [hq] at ok hrd hqm⊢
   have H:=C.hb q hqm
   have hold:∀ k∈w.b.halfs.set n { q with till:=w.b.now+6 },∃ h∈w.b.halfs,HalfKeep h k:=by
    intro k hk
    rcases RB hk with hk|hk
    ·exact⟨k,hk,HalfKeep.refl k⟩
    rw [hk];exact⟨q,hqm,rfl,rfl,rfl,rfl,rfl⟩
   have HB:∀ k,(∃ h∈w.b.halfs,HalfKeep h k)->HalfB w.nums w.b.draw w.a.subs w.b.subs k:=by
    rintro k ⟨h,h1,h2,h3,h4,h5,h6⟩
    have S:=C.hb h h1
    exact⟨by rw [<-h2,<-h4];exact S.m4,by rw [<-h4];exact S.sep,by rw [<-h3,<-h4,<-h5,<-h6];exact S.th⟩
   have P:PutB w (inB w { w.b with bucket:=(cK w.b.bucket).1,halfs:=w.b.halfs.set n { q with till:=w.b.now+6 } }):=by
    refine⟨rfl,rfl,rfl,rfl,rfl,⟨[],by simp [inB]⟩,ok.1,ok.2,C.sib,rfl,rfl,⟨C.db.1,Rx _⟩,fun t ht=>⟨t,ht,rfl,rfl,rfl⟩,C.sb,fun h hh=>HB h (hold h hh),?_,fun h hh=>?_,C.ob,C.fb,fun _ _ h=>h,C.oib,C.iib⟩
    ·refine GT C.hbd fun i hi hin=>?_
     have p:=C.hbd
     rw [RA] at p
     dsimp only
     rw [<-hq]
     rcases Sp hin with hl|hl
     ·exact p i n hi hn hl
     exact fun hc=>p n i hn hi hl hc.symm
    obtain⟨k,g1,g2,g3,g4,g5,_⟩:=hold h hh
    exact .inr ⟨k,g1,g2,g3,g4,g5⟩
   refine P.step C fun C'=>dY ?_
   have h1:∀ k∈w.b.halfs.set n { q with till:=w.b.now+6 },k.take=q.take->k.theirs=q.theirs/\k.take=q.take/\k.road=q.road:=by
    intro k hk ht
    obtain⟨h,g1,g2,g3,g4,g5,_⟩:=hold k hk
    have:h=q:=K7 C.hbd g1 hqm (by rw [g4,ht])
    subst this
    exact⟨g3.symm,g4.symm,g5.symm⟩
   refine ans _ q C' H hrd (fun k hk hm=>?_) (fun k hk ht=>(h1 k hk ht).1) rfl rfl
   have m1:=(HB k (hold k hk)).m4
   have m2:=H.m4
   exact h1 k hk zO
  rename_i hs
  rw [if_neg hs]
  simp only [mu,Ru,decide_eq_true_eq,df] at hk
  have hd:=hk.1.1.2
  have db:=C.db
  have hnew:HalfB w.nums (w.b.draw+4) w.a.subs w.b.subs (aw w.b x):=by
   refine⟨⟨by simp only [aw];omega,by simp only [aw];omega,by simp only [aw];omega,by simp only [aw]⟩,fun t ht=>?_,?_⟩
   ·have:=(C.sb t ht).t4
    simp only [aw]
    omega
   rcases hL with g|⟨s,g1,g2,g3,g4,g5⟩
   ·exact .inl g
   refine .inr ⟨fun hc=>?_,s,g1,g2,g3.symm,g4.symm,?_⟩
   ·have:=(C.nn _ hc).2 (by simp only [aw];omega)
    simp only [aw] at this
    omega
   simp only [aw];rw [g5];rfl
  have hput:(∀ h∈(bF w.b.halfs (aw w.b x)).1,h=aw w.b x\/h∈w.b.halfs)/\(bF w.b.halfs (aw w.b x)).1.Pairwise fun h k=>¬ h.take=k.take:=by
   have hne:∀ h∈w.b.halfs,¬ h.take=(aw w.b x).take:=fun h hh=>by
    have:=(C.hb h hh).m4
    simp only [aw]
    omega
   rw [bF];split
   ·dsimp only
    rw [cS];split
    ·refine⟨fun h hh=>?_,GT C.hbd fun i hi _=>hne _ (Rv hi)⟩
     rcases RB hh with hh|hh
     ·exact .inr hh
     exact .inl hh
    refine⟨fun h hh=>?_,?_⟩
    ·rcases Rz.1 hh with hh|hh
     ·exact .inr hh
     exact .inl (Rw.1 hh)
    rw [RP]
    exact⟨C.hbd,RL ..,fun a ha b hb=>by rw [Rw.1 hb];exact hne a ha⟩
   exact⟨fun h hh=>.inr hh,C.hbd⟩
  have P:PutB w (inB w { w.b with bucket:=(cK w.b.bucket).1,draw:=w.b.draw+4,halfs:=(bF w.b.halfs (aw w.b x)).1 }):=by
   refine⟨rfl,rfl,rfl,rfl,rfl,⟨[],by simp [inB]⟩,ok.1,ok.2,C.sib,rfl,rfl,⟨by dsimp only [inB];omega,by dsimp only [inB];omega⟩,fun t ht=>⟨t,ht,rfl,rfl,rfl⟩,fun t ht=>?_,fun h hh=>?_,hput.2,fun h hh=>?_,C.ob,C.fb,fun _ _ h=>h,C.oib,C.iib⟩
   ·have S:=C.sb t ht
    exact⟨by have:=S.t4;dsimp only [inB];omega,S.tn,S.st,S.like⟩
   ·rcases hput.1 h hh with rfl|hh
    ·exact hnew
    have S:=C.hb h hh
    exact⟨by have:=S.m4;dsimp only [inB];omega,S.sep,S.th⟩
   rcases hput.1 h hh with rfl|hh
   ·exact .inl (Rx _)
   exact .inr ⟨h,hh,rfl,rfl,rfl,rfl⟩
  refine P.step C fun C'=>dY ?_
  have h1:∀ k∈(bF w.b.halfs (aw w.b x)).1,k.take=(aw w.b x).take\/k.mine=(aw w.b x).mine->k=aw w.b x:=by
   intro k hk ht
   rcases hput.1 k hk with g|g
   ·exact g
   have:=(C.hb k g).m4
   simp only [aw] at ht
   omega
  exact ans _ (aw w.b x) C' hnew rfl (fun k hk hm=>by rw [h1 k hk (.inr hm)];exact⟨rfl,rfl,rfl⟩) (fun k hk ht=>by rw [h1 k hk (.inl ht)]) rfl rfl
 by_cases k5:x.kind=5
 ·rw [vQ hc k5,Oj]
  ·exact keep
  cases hj:rT w.b x with
  |false=>rfl
  |true=>
   simp only [rT,Ru,decide_eq_true_eq] at hj
   obtain⟨⟨⟨_,q4⟩,q5⟩,_⟩:=hj
   obtain⟨n,e1,hn,_⟩:=kK q4
   rw [e1,Ry,cd hn] at q5
   have:=(C.sb _ (Rv hn)).st
   omega
 by_cases k6:x.kind=6
 ·rw [vR hc k6] at ok⊢
  have hL:=L.b6 hx k6
  unfold aF at ok⊢
  split at ok
  case isFalse hk=>rw [if_neg hk];exact keep
  rename_i hk
  rw [if_pos hk]
  split at ok
  ·rename_i ha
   rw [if_pos ha]
   simp only [tZ,Ru,decide_eq_true_eq] at ha
   obtain⟨⟨a1,a2⟩,a3⟩:=ha
   obtain⟨i,e1,hi,hrd⟩:=lE a1
   have hj:p_ w.b x=w.b.halfs[i]:=by rw [p_,e1,Ry,eJ hi]
   rw [hj] at a3 ok⊢
   obtain⟨q,hq⟩:∃ q,w.b.halfs[i]=q:=⟨_,rfl⟩
   have hqm:=Rv hi
   rw [hq] at a3 ok hrd hqm⊢
   have H:=C.hb q hqm
   rw [C.pb] at a3
   obtain⟨s,s1,s2,s3,s4,s5,s6⟩:=hL _ _ a3
   have S:=C.sa s s1
   obtain⟨g1,g2,g3⟩:=S.th.2 q hqm s5
   have hau:¬ q.take∈w.nums/\∃ s∈w.a.subs,1000<=s.mine/\s.mine=q.theirs/\s.take=q.give/\s.road=bk q.road:=by
    rcases H.th with g|g
    ·rw [s4] at g;exact absurd g (GS C s1 s3)
    exact g
   obtain⟨hn,r,r1,r2,r3,r4,r5⟩:=hau
   have hrs:r=s:=by
    refine kL C.sad r1 s1 ?_
    have m1:=(C.sa r r1).mine
    have m2:=S.mine
    omega
   subst hrs
   have hdr:bV w.b.halfs (roadOf x)=w.b.halfs.take i++w.b.halfs.drop (i+1):=vA e1
   have hsub:(bV w.b.halfs (roadOf x)).Sublist w.b.halfs:=by rw [hdr];exact nC _ _
   have hoth:∀ k∈bV w.b.halfs (roadOf x),¬ k.take=q.take:=by
    intro k hk
    have p:=C.hbd
    rw [RA] at p
    rw [hdr] at hk
    rw [<-hq]
    rcases Rz.1 hk with hk|hk
    ·rw [RS] at hk
     obtain⟨j,hj,rfl⟩:=hk
     exact p j i zO hi zO
    rw [R_] at hk
    obtain⟨j,hj,rfl⟩:=hk
    exact fun hc=>p i (i+1+j) hi zO zO hc.symm
   obtain⟨l0,hl0⟩:∃ l0,(if 0<=bE w.b.subs (roadOf x) then bB w.b.subs (bE w.b.subs (roadOf x)).toNat 4 else w.b.subs)=l0:=⟨_,rfl⟩
   rw [hl0] at ok⊢
   have K:SubsKeep w.b.subs l0:=by
    rw [<-hl0];split
    ·exact SubsKeep.st4 _ _
    exact SubsKeep.refl _
   have hmem:gS (roadOf x) q∈l0++[gS (roadOf x) q]:=by simp
   have P:PutB w (inB w { w.b with subs:=l0++[gS (roadOf x) q],halfs:=bV w.b.halfs (roadOf x) }):=by
    refine⟨rfl,rfl,rfl,rfl,rfl,⟨[],by simp [inB]⟩,ok.1,ok.2,C.sib,rfl,rfl,⟨C.db.1,Rx _⟩,fun t ht=>?_,fun t ht=>?_,fun h hh=>?_,C.hbd.sublist hsub,fun h hh=>.inr ⟨h,hsub.subset hh,rfl,rfl,rfl,rfl⟩,C.ob,C.fb,fun _ _ h=>h,C.oib,C.iib⟩
    ·obtain⟨u,u1,u2⟩:=K.new ht
     exact⟨u,RH _ u1,u2.road,u2.take,u2.give⟩
    ·rcases Rz.1 ht with ht|ht
     ·obtain⟨u,u1,u2⟩:=K.old ht
      exact u2.subB (C.sb u u1)
     rw [Rw.1 ht]
     have m4:=H.m4
     exact⟨by simp only [gS,inB];omega,hn,.inl rfl,r,r1,s2,by rw [r5,hrd];rfl,r4,g2.symm⟩
    have S':=C.hb h (hsub.subset hh)
    refine⟨S'.m4,fun t ht=>?_,S'.th⟩
    rcases Rz.1 ht with ht|ht
    ·obtain⟨u,u1,u2⟩:=K.old ht
     rw [u2.take];exact S'.sep u u1
    rw [Rw.1 ht]
    exact fun hc=>hoth h hh hc.symm
   refine P.step C fun C'=>dY ⟨.inr ?_,fun h0=>?_⟩
   ·constructor<;>(intro p1 p2;simp only [pY,aq,ac] at p2;try omega)
    exact .inr ⟨_,hmem,rfl⟩
   have h0':sideAt (roadOf x).far=0:=h0
   have h3:=(farB C' (t:=gS (roadOf x) q) hmem).1
   have h3':sideAt (roadOf x).far=1:=h3
   omega
  rename_i ha
  rw [if_neg ha]
  split at ok
  ·rename_i hb
   rw [if_pos hb]
   simp only [HS,Ru,decide_eq_true_eq] at hb
   obtain⟨n,e1,hn,_,hr,_⟩:=kK hb.1.1
   have hj:LF w.b x=w.b.subs[n]:=by rw [LF,e1,Ry,cd hn]
   rw [hj]
   refine (M0.put C).step C fun C'=>dY ⟨.inr ?_,fun h0=>?_⟩
   ·constructor<;>(intro p1 p2;simp only [pY,aq,ac] at p2;try omega)
    exact .inr ⟨_,Rv hn,rfl⟩
   have h0':sideAt (roadOf x).far=0:=h0
   have h3:=(farB C (Rv hn)).1
   rw [hr] at h3
   omega
  rename_i hb
  rw [if_neg hb];exact keep
 by_cases k7:x.kind=7
 ·rw [vS hc k7,NG]
  ·exact keep
  cases hj:lQ w.b x with
  |false=>rfl
  |true=>
   simp only [lQ,Ru,decide_eq_true_eq] at hj
   obtain⟨⟨⟨_,q3⟩,q4⟩,_⟩:=hj
   obtain⟨n,e1,hn,_⟩:=kK q3
   rw [e1,Ry,cd hn] at q4
   have:=(C.sb _ (Rv hn)).st
   omega
 by_cases k8:x.kind=8
 ·rw [vT hc k8] at ok⊢
  unfold cF at ok⊢
  split at ok
  case isFalse hk=>rw [if_neg hk];exact keep
  rename_i hk
  rw [if_pos hk]
  simp only [je,Ru,decide_eq_true_eq] at hk
  obtain⟨⟨⟨⟨q1,q2⟩,_⟩,_⟩,_⟩:=hk
  rw [C.pb] at q2
  obtain⟨t1,t2⟩:=L.b8 hx k8 _ _ q2
  obtain⟨n,e1,_,hn,_,_,hr,_⟩:=AX q1
  refine PutB.step (MildB.put ⟨rfl,rfl,rfl,rfl,rfl,⟨[],by simp [inB]⟩,ok,⟨rfl,rfl,rfl,rfl⟩,SubsKeep.refl _,List.Sublist.refl _,C.ob,fun f hf=>?_,fun _ _ h=>h,C.oib,C.iib⟩ C) C fun C'=>dY (nI (by simp [t_,ti,aq]) ?_)
  ·rcases gz hf with rfl|hf
   ·exact⟨t1,t2⟩
   exact C.fb f hf
  show ¬ sideAt (roadOf x).far=0
  rw [<-hr]
  have:=(farB C (Rv hn)).1
  omega
 by_cases k9:x.kind=9
 ·rw [vU hc k9] at ok⊢
  unfold cG at ok⊢
  dsimp only at ok⊢
  split at ok
  case isFalse hk=>rw [if_neg hk];exact keep
  rename_i hk
  rw [if_pos hk]
  simp only [iv,Ru,decide_eq_true_eq] at hk
  obtain⟨n,e1,hn,_⟩:=lF hk.1.2
  rw [e1,Ry,fD hn] at ok⊢
  refine PutB.step (MildB.put ⟨rfl,rfl,rfl,rfl,rfl,⟨[],by simp [inB]⟩,ok,⟨rfl,rfl,rfl,rfl⟩,SubsKeep.refl _,List.Sublist.refl _,fun q hq=>?_,C.fb,fun i d h=>?_,C.oib,C.iib⟩ C) C fun _=>dX
  ·rcases RB hq with hq|hq
   ·exact C.ob q hq
   rw [hq];exact (show sideAt w.b.own[n].addr=2 from C.ob _ (Rv hn))
  rcases h with⟨q,h1,h2,h3⟩|h
  ·obtain⟨j,hj,rfl⟩:=RC h1
   by_cases hjn:n=j
   ·subst hjn
    exact .inl ⟨_,R0 hn _,h2,h3⟩
   refine .inl ⟨w.b.own[j],?_,h2,h3⟩
   dsimp only [inB]
   rw [R7]
   exact⟨j,by simpa using hj,by rw [SC hjn]⟩
  exact .inr h
 by_cases k10:x.kind=10
 ·rw [nq hc k10] at ok⊢
  unfold cH at ok⊢
  dsimp only at ok⊢
  split at ok
  case isFalse hk=>rw [if_neg hk];exact keep
  rename_i hk
  rw [if_pos hk]
  refine PutB.step (MildB.put ⟨rfl,rfl,rfl,rfl,rfl,⟨[],by simp [inB]⟩,ok,⟨rfl,rfl,rfl,rfl⟩,SubsKeep.map fun s hs=>?_,List.Sublist.refl _,C.ob,fun f hf=>C.fb f (g0 hf),fun _ _ h=>h,C.oib,C.iib⟩ C) C fun _=>dX
  rw [lS];split
  ·exact⟨rfl,rfl,rfl,rfl,rfl,.inr rfl⟩
  exact SubKeep.refl s
 by_cases k11:x.kind=11
 ·rw [qd hc k11] at ok⊢
  unfold cJ at ok⊢
  split at ok
  case isFalse hk=>rw [if_neg hk];exact keep
  rename_i hk
  rw [if_pos hk]
  simp only [mz,Ru,decide_eq_true_eq] at hk
  obtain⟨n,e1,_,hn,_,ht,hr,_⟩:=AX hk.1
  have hsl:Slice w.wroteA x.pos x.text:=by
   rcases L.b11 hx k11 with g|g
   ·rw [<-ht] at g;exact absurd g (Nb C (Rv hn))
   exact g
  refine PutB.step (MildB.put ⟨rfl,rfl,rfl,rfl,rfl,⟨[],by simp [inB]⟩,ok,⟨rfl,rfl,rfl,rfl⟩,SubsKeep.refl _,List.Sublist.refl _,C.ob,C.fb,fun _ _ h=>h,C.oib,xl C.iib G hsl⟩ C) C fun C'=>dY (nI (by simp [t_,vM,aq]) ?_)
  show ¬ sideAt (roadOf x).far=0
  rw [<-hr]
  have:=(farB C (Rv hn)).1
  omega
 by_cases k12:x.kind=12
 ·rw [qe hc k12] at ok⊢
  unfold cv at ok⊢
  dsimp only at ok⊢
  split at ok
  case isFalse hk=>rw [if_neg hk];exact keep
  rename_i hk
  rw [if_pos hk]
  exact PutB.step (MildB.put ⟨rfl,rfl,rfl,rfl,rfl,⟨[],by simp [inB]⟩,ok,⟨rfl,rfl,rfl,rfl⟩,SubsKeep.refl _,List.Sublist.refl _,C.ob,C.fb,fun _ _ h=>h,K4 C.oib,C.iib⟩ C) C fun _=>dX
 by_cases k13:x.kind=13
 ·rw [nr hc k13] at ok⊢
  unfold bW at ok⊢
  dsimp only at ok⊢
  split at ok
  case isFalse hk=>rw [if_neg hk];exact keep
  rename_i hk
  rw [if_pos hk]
  exact PutB.step (MildB.put ⟨rfl,rfl,rfl,rfl,rfl,⟨[],by simp [inB]⟩,ok,⟨rfl,rfl,rfl,rfl⟩,SubsKeep.st4 _ _,List.Sublist.refl _,C.ob,C.fb,fun _ _ h=>h,C.oib,C.iib⟩ C) C fun _=>dX
 rw [Ai fun k hk=>by omega];exact keep
def Sent (w:WorldD) (l:List LetterD):Prop:=∀ x∈l,¬ sideAt x.to=0/\LetI w x
theorem Sent.post {w:WorldD} {l:List LetterD} (h:Sent w l):∀ x∈l,Post w x:=fun x hx=>⟨.inr (h x hx).2,fun h0=>absurd h0 (h x hx).1⟩
theorem Sent.mono {w w':WorldD} {l:List LetterD} (h:Sent w l) (L:Le w w'):Sent w' l:=fun x hx=>⟨(h x hx).1,(h x hx).2.mono L⟩
theorem fZ {w:WorldD}:Sent w []:=fun x hx=>by simp at hx
theorem mT {w:WorldD} {x:LetterD} (h1:¬ sideAt x.to=0) (h2:LetI w x):Sent w [x]:=fun y hy=>by rw [Rw.1 hy];exact⟨h1,h2⟩
theorem mU {w:WorldD} {l m:List LetterD} (h:Sent w l) (g:Sent w m):Sent w (l++m):=fun x hx=>(Rz.1 hx).elim (h x) (g x)
theorem nJ {w:WorldD} {x:LetterD} (hk:t_ x.kind):LetI w x:=by
  simp only [t_] at hk
  constructor<;>(intro _ h;omega)
theorem SubTo.trans {a b c:SubD} (h:SubTo a b) (g:SubTo b c):SubTo a c:=⟨g.road.trans h.road,g.mine.trans h.mine,g.take.trans h.take,fun h1=>by
  obtain⟨p1,p2,p3⟩:=h.rest h1
  obtain⟨q1,q2,q3⟩:=g.rest p1
  exact⟨q1,q2.trans p2,q3.trans p3⟩⟩
theorem Le.trans {a b c:WorldD} (h:Le a b) (g:Le b c):Le a c:=by
  refine⟨g.ka.trans h.ka,g.kb.trans h.kb,fun n hn=>g.nums n (h.nums n hn),fun s hs=>?_,fun t ht=>?_,RV h.db g.db,fun k hk=>?_,fun i d q=>g.ta i d (h.ta i d q),fun i d q=>g.tb i d (h.tb i d q),?_,?_⟩
  · obtain⟨r,r1,r2⟩:=h.sa s hs
    obtain⟨u,u1,u2⟩:=g.sa r r1
    exact⟨u,u1,r2.trans u2⟩
  · obtain⟨r,r1,r2⟩:=h.sb t ht
    obtain⟨u,u1,u2⟩:=g.sb r r1
    exact⟨u,u1,u2.trans r2⟩
  · rcases g.hb k hk with q|⟨r,r1,r2,r3,r4,r5⟩
    · exact .inl (RV h.db q)
    · rcases h.hb r r1 with q|⟨u,u1,u2,u3,u4,u5⟩
      · exact .inl zO
      · exact .inr ⟨u,u1,u2.trans r2,u3.trans r3,u4.trans r4,u5.trans r5⟩
  · obtain⟨t,e⟩:=h.wa;obtain⟨u,f⟩:=g.wa
    exact⟨t++u,by rw [f,e,Sv]⟩
  · obtain⟨t,e⟩:=h.wb;obtain⟨u,f⟩:=g.wb
    exact⟨t++u,by rw [f,e,Sv]⟩
structure Go1 (w w':WorldD) (l:List LetterD):Prop where
  c:Core w'
  le:Le w w'
  s:Sent w' l
theorem Go1.trans {a b c:WorldD} {l m:List LetterD} (h:Go1 a b l) (g:Go1 b c m):Go1 a c (l++m):=⟨g.c,h.le.trans g.le,mU (h.s.mono g.le) g.s⟩
theorem Go1.step {w w':WorldD} {l:List LetterD} (h:Go1 w w' l):Step w w' l:=⟨h.c,h.le,h.s.post⟩
theorem tM {l:List AddrD} {a b:AddrD} (h:aT l a.id < 0) (hb:b∈l):b∈(bi l a).1:=by
  rw [bi];split
  · dsimp only
    rw [cC,if_neg zO]
    have:=R5 (z_ l a.id) l
    rw [<-this] at hb
    rcases Rz.1 hb with hb|hb
    · exact RH _ (RH _ hb)
    · exact Si _ hb
  · exact hb
theorem qz {l:List AddrD} {n:Int} {b:AddrD} (hb:b∈l) (hn:¬ b.id=n):b∈(bN l n).1:=by
  rw [bN];split
  · exact hb
  · rename_i h
    obtain⟨k,e,hk,hi⟩:=lF (show 0<=aT l n by omega)
    rw [e,Ry]
    dsimp only
    obtain⟨j,hj,rfl⟩:=RC hb
    have hjk:¬ j=k:=fun hc=>by subst hc;exact hn hi
    rcases Sp hjk with hl|hl
    · refine RH _ ?_
      rw [RS]
      exact⟨j,zO,rfl⟩
    · refine Si _ ?_
      rw [R_]
      exact⟨j - (k+1),zO,by congr 1;omega⟩
theorem oZ {l:List SubD} {k:Nat} (h:k∈mo l):bD l k∈l:=by
  obtain⟨h1,_⟩:=pO h
  rw [cd h1];exact Rv h1
theorem nK {l:List Nat} (h:¬ l.length=0):l.headD 0∈l:=by
  cases l with
  |nil=>simp at h
  |cons a r=>simp
theorem dZ (s:SubD):SubKeep s (bI s):=by
  rw [bI];split
  · split
    · exact⟨rfl,rfl,rfl,rfl,rfl,.inr rfl⟩
    · exact⟨rfl,rfl,rfl,rfl,rfl,.inl rfl⟩
  · exact SubKeep.refl s
theorem xm {e:EndD} (h:OkE e) (hk:GF e=true):OkE { cP e with subs:=e.subs.map bI }:=by
  simp only [GF,Ru,decide_eq_true_eq,RI] at hk
  refine⟨h.side,h.state,h.pol,h.own,h.far,h.halfs.young,zh h.bucket,GP h.out,h.inp,h.done,h.over,by dsimp only;rw [RX];exact h.subs8,⟨h.nums.1,h.nums.2.1,h.nums.2.2.1,by have:=h.nums.2.2.2.1;simp only [N9,cP] at this⊢;omega,h.nums.2.2.2.2⟩,h.subs.map fun s hs=>?_⟩
  have hel:=h.subs.el s hs
  have ht:=hk.2 s hs
  have hN:N9 (s.tries+1):=by have:=hel.2.2.2.2.2.2;simp only [N9] at this⊢;omega
  rw [bI];split
  · split
    · exact⟨⟨zP,hel.2.1,hel.2.2.1,hel.2.2.2.1,hel.2.2.2.2.1,hel.2.2.2.2.2.1,hN⟩,rfl,fun _=>rfl⟩
    · exact⟨⟨hel.1,hel.2.1,hel.2.2.1,hel.2.2.2.1,hel.2.2.2.2.1,hel.2.2.2.2.2.1,hN⟩,rfl,fun h=>h⟩
  · exact⟨hel,rfl,fun h=>h⟩
theorem NL {w w':WorldD} {l:List LetterD} (M:MildA w w') (C:Core w) (h:Core w'->Sent w' l):Go1 w w' l:=⟨(M.put C).core C,(M.put C).le,h ((M.put C).core C)⟩
theorem qQ {w:WorldD} (C:Core w):Go1 w w []:=NL (MildA.refl C) C fun _=>fZ
theorem A5 {w:WorldD} (C:Core w) {s:SubD} (hs:s∈w.a.subs):¬ sideAt s.road.far=0/\¬ sideAt s.road.far=1:=by
  have:=(C.sa s hs).far
  omega
theorem Qf {w:WorldD} (C:Core w):Go1 w (h_ w (dv w.a).1) (dv w.a).2:=by
  have ok:=uq C.oka
  have st:=(oY (e:=w.a)).trans C.sta
  unfold dv at ok st⊢
  split at ok
  · rename_i hk
    rw [if_pos hk] at st⊢
    refine NL ⟨rfl,rfl,rfl,rfl,rfl,⟨[],by simp [h_]⟩,⟨ok,st⟩,⟨rfl,rfl,rfl,rfl⟩,SubsKeep.refl _,fun h hh=>⟨h,hh,HalfKeep.refl h⟩,C.oa,C.fa,fun _ _ h=>h,zk C.oia,C.iia⟩ C fun C'=>?_
    simp only [kq,Ru,decide_eq_true_eq,kH] at hk
    rcases kp w.a with h0|⟨m,hm,e⟩
    · omega
    · rw [e,Ry,cd hm]
      obtain⟨f0,f1⟩:=A5 C (Rv hm)
      refine mT f0 ?_
      have hs:=qy C.oia hk.1.1
      constructor<;>(intro q1 q2;simp only [wn,aq,ac] at q1 q2;try omega)
      first|exact .inr hs|exact absurd q1 f1
  · rename_i hk
    rw [if_neg hk]
    exact qQ C
theorem Fw:∀ {k:Nat} {w:WorldD},Core w->Go1 w (h_ w (bZ k w.a).1) (bZ k w.a).2
  |0,w,C=>qQ C
  |k+1,w,C=>by
    have h1:=Qf C
    have h2:=Fw (k:=k) h1.c
    exact h1.trans h2
theorem Qg {w:WorldD} (C:Core w):Sent w (ce w.a):=by
  unfold ce;split
  · rename_i hk
    simp only [CA,Ru,decide_eq_true_eq,RK,decide_eq_false_iff_not] at hk
    intro x hx
    obtain⟨q,hq,rfl⟩:=RO.1 hx
    have hq':=(RU.1 hq).1
    have hs:=oZ (nK hk.2)
    obtain⟨f0,f1⟩:=A5 C hs
    refine⟨f0,?_⟩
    constructor<;>(intro q1 q2;simp only [oh,aq,ac] at q1 q2;try omega)
    all_goals
      intro i d hm
      first
        |exact absurd q1 f1
        | (simp only [oh,aq] at hm
           injection hm with _ _ _ hi hd
           exact⟨by rw [<-hd];exact C.oa q hq',.inl ⟨q,hq',hi,hd⟩⟩)
  · exact fZ
theorem K9 {w:WorldD} {l:List LetterD} (C:Core w) (hl:Sent w l):Go1 w (h_ w (bA w.a l).1) (bA w.a l).2:=by
  have h:=Fw (k:=3) C
  exact⟨h.c,h.le,mU (mU (hl.mono h.le) ((Qg C).mono h.le)) h.s⟩
theorem NM {w:WorldD} (C:Core w):Go1 w (h_ w (tick w.a).1) (tick w.a).2:=by
  have hst:=C.sta
  unfold tick
  by_cases hk:GF w.a=true
  · rw [if_pos hk,if_pos hst]
    have ok:OkE { cP w.a with subs:=w.a.subs.map bI }:=xm C.oka hk
    have M:MildA w (h_ w { cP w.a with subs:=w.a.subs.map bI }):=by
      refine⟨rfl,rfl,rfl,rfl,rfl,⟨[],by simp [h_]⟩,⟨ok,hst⟩,⟨rfl,rfl,rfl,rfl⟩,SubsKeep.map fun s _=>dZ s,fun h hh=>⟨h,(RU.1 hh).1,HalfKeep.refl h⟩,C.oa,C.fa,fun _ _ h=>h,K5 C.oia,C.iia⟩
    have g:Go1 w (h_ w { cP w.a with subs:=w.a.subs.map bI }) (w.a.subs.flatMap (dO w.a)):=by
      refine NL M C fun C' x hx=>?_
      obtain⟨s,hs,hx⟩:=Sh.1 hx
      have S:=C.sa s hs
      have hf:=S.far
      rw [dO] at hx
      split at hx
      case isFalse=>simp at hx
      rename_i h12
      have h1000:=S.ask h12
      split at hx
      · simp at hx
      rename_i hn9
      split at hx
      · simp at hx
      have hin:bI s∈(h_ w { cP w.a with subs:=w.a.subs.map bI }).a.subs:=List.mem_map_of_mem hs
      have K:=dZ s
      split at hx
      · rw [Rw.1 hx]
        refine⟨by show ¬ sideAt s.road.far=0;omega,?_⟩
        constructor<;>(intro q1 q2;simp only [fU,aq,ac] at q1 q2;try omega)
        exact .inr ⟨_,hin,by rw [K.mine];exact h1000,K.mine.symm,K.take.symm,by rw [K.road];rfl⟩
      · rename_i h1
        rw [Rw.1 hx]
        refine⟨by show ¬ sideAt s.road.far=0;omega,?_⟩
        constructor<;>(intro q1 q2;simp only [ci,aq,ac] at q1 q2;try omega)
        intro m n hm
        simp only [ci,aq,h_] at hm
        injection hm with _ _ _ hm hn'
        exact⟨_,hin,by rcases K.state with q|q<;>omega,by rw [K.mine];exact h1000,by rw [K.mine];exact hm.symm,by rw [K.theirs];exact hn'.symm,by rw [K.road];rfl⟩
    have t:=K9 g.c g.s
    exact⟨t.c,g.le.trans t.le,t.s⟩
  · rw [if_neg hk];exact qQ C
theorem NN {w:WorldD} (C:Core w) (r:RoadD) (b:Bool):Go1 w (h_ w (dE w.a r b).1) (dE w.a r b).2:=by
  have ok:=ur (r:=r) (b:=b) C.oka
  unfold dE at ok⊢
  split at ok
  · rename_i hk
    rw [if_pos hk]
    simp only [xU,Ru,decide_eq_true_eq,df,nA] at hk
    obtain⟨⟨⟨⟨⟨⟨⟨k1,k2⟩,k3⟩,k4⟩,k5⟩,k6⟩,k7⟩,k8⟩:=hk
    have da:=C.da
    simp only [jD,i7,R8,beq_iff_eq] at k5 k6
    obtain⟨q,q1,q2⟩:=k5
    obtain⟨f,f1,f2⟩:=k6
    have ho:=C.oa q q1
    have hf:=(C.fa f f1).1
    rw [q2] at ho
    rw [f2] at hf
    have hmem:de w.a r b∈w.a.subs++[de w.a r b]:=by simp
    have P:PutA w (h_ w { w.a with subs:=w.a.subs++[de w.a r b],draw:=w.a.draw+4 }):=by
      refine⟨rfl,rfl,rfl,rfl,rfl,⟨[],by simp [h_]⟩,ok.1,ok.2.trans C.sta,C.sia,rfl,rfl,⟨by dsimp only [h_];omega,by dsimp only [h_];omega⟩,fun s hs=>⟨s,RH _ hs,SubTo.refl s⟩,fun s hs=>?_,?_,fun h hh=>?_,C.oa,C.fa,fun _ _ h=>h,C.oia,C.iia⟩
      · rcases Rz.1 hs with hs|hs
        · have S:=C.sa s hs
          exact⟨by have:=S.t4;dsimp only [h_];omega,S.tn,S.mine,S.own,S.far,S.th,S.on,S.ask⟩
        · rw [Rw.1 hs]
          refine⟨by simp only [de,h_];omega,fun hc=>?_,.inr ⟨rfl,fun hc=>?_⟩,ho,hf,⟨by have:=C.db;simp only [de];omega,fun h hh hm=>?_⟩,fun h3=>by simp [de] at h3,fun _=>by simp only [de];omega⟩
          · have:=(C.nn _ hc).1 (by simp only [de];omega)
            simp only [de] at this
            omega
          · have:=(C.nn _ hc).1 (by simp only [de];omega)
            simp only [de] at this
            omega
          · have:=(C.hb h hh).m4
            simp only [de] at hm
            omega
      · dsimp only [h_]
        rw [RP]
        refine⟨C.sad,RL ..,fun s hs t ht=>?_⟩
        rw [Rw.1 ht]
        have:=(C.sa s hs).t4
        simp only [de]
        omega
      · have S:=C.ha h hh
        refine⟨by have:=S.m4;dsimp only [h_];omega,fun s hs=>?_,S.th⟩
        rcases Rz.1 hs with hs|hs
        · exact S.sep s hs
        · rw [Rw.1 hs]
          have:=S.m4
          simp only [de]
          omega
    refine⟨P.core C,P.le,mT ?_ ?_⟩
    · show ¬ sideAt r.far=0
      omega
    · constructor<;>(intro q1 q2;simp only [fU,de,aq,ac] at q1 q2;try omega)
      exact .inr ⟨_,hmem,by simp only [de];omega,rfl,rfl,rfl⟩
  · rename_i hk
    rw [if_neg hk];exact qQ C
theorem Fx {far:List AddrD}:∀ {l:List RoadD} {w:WorldD},Core w->Go1 w (h_ w (dm far w.a l).1) (dm far w.a l).2
  |[],w,C=>qQ C
  |r::l,w,C=>by
    have h1:=NN C r (aZ far r.far)
    have h2:=Fx (far:=far) (l:=l) h1.c
    exact h1.trans h2
theorem Qh {w:WorldD} {a:ActD} (C:Core w) (G:SmallP w.a.inp) (hs:a.side=1) (hb:dx w a=false):Go1 w (aJ (eB w a) 1 (dq w.a a).1) (dq w.a a).2:=by
  have ok:=nF (a:=a) C.oka G
  have hE:bJ w a.side=w.a:=by rw [hs];rfl
  have heo:ax w.a=true:=jn.2 C.oka
  have hset:∀ (u:WorldD) (e:EndD),aJ u 1 e={ u with a:=e }:=fun u e=>rfl
  rw [hset]
  unfold dq at ok⊢
  unfold eB
  rw [hE]
  by_cases k1:a.kind=1
  · simp only [if_pos k1]
    rw [e7,if_pos hs]
    have ok1:=qv (t:=a.text) C.oka
    have hw:write w.a a.text=({ w.a with out:=(dh w.a.out a.text).1 },(dh w.a.out a.text).2):=Al heo
    rw [hw] at ok1
    rw [hw,bh,hw]
    dsimp only
    have M:MildA w { w with wroteA:=w.wroteA++a.text.take (dh w.a.out a.text).2,a:={ w.a with out:=(dh w.a.out a.text).1 } }:=
      ⟨rfl,rfl,rfl,rfl,rfl,⟨_,rfl⟩,⟨ok1.1,ok1.2.trans C.sta⟩,⟨rfl,rfl,rfl,rfl⟩,SubsKeep.refl _,fun h hh=>⟨h,hh,HalfKeep.refl h⟩,C.oa,C.fa,fun _ _ h=>h,Dh C.oia,C.iia⟩
    have g:=NL M C fun _=>fZ
    have g2:=Fw (k:=3) g.c
    exact g.trans g2
  simp only [if_neg k1] at ok⊢
  by_cases k2:a.kind=2
  · simp only [if_pos k2] at ok⊢
    rw [cL,if_pos hs]
    have hr:bu w.a a.many=({ w.a with inp:=(bs w.a.inp a.many).1 },(bs w.a.inp a.many).2):=Ao heo
    rw [hr] at ok⊢
    exact NL ⟨rfl,rfl,rfl,rfl,rfl,⟨[],zP⟩,⟨ok.1,ok.2.trans C.sta⟩,⟨rfl,rfl,rfl,rfl⟩,SubsKeep.refl _,fun h hh=>⟨h,hh,HalfKeep.refl h⟩,C.oa,C.fa,fun _ _ h=>h,C.oia,K3 C.iia⟩ C fun _=>fZ
  simp only [if_neg k2] at ok⊢
  by_cases k3:a.kind=3
  · simp only [if_pos k3]
    exact NM C
  simp only [if_neg k3] at ok⊢
  by_cases k4:a.kind=4
  · simp only [if_pos k4]
    unfold manage
    split
    · exact Fx C
    · exact qQ C
  simp only [if_neg k4] at ok⊢
  by_cases k5:a.kind=5
  · simp only [if_pos k5] at ok⊢
    unfold aN at ok⊢
    split at ok
    · rename_i hk
      rw [if_pos hk]
      simp only [EV,Ru,decide_eq_true_eq] at hk
      simp only [dx,k5,decide_true,Sr,SA,SE,decide_eq_true_eq,hs] at hb
      refine NL ⟨rfl,rfl,rfl,rfl,rfl,⟨[],zP⟩,⟨ok.1,ok.2.trans C.sta⟩,⟨rfl,rfl,rfl,rfl⟩,SubsKeep.refl _,fun h hh=>⟨h,hh,HalfKeep.refl h⟩,fun q hq=>?_,C.fa,fun i d h=>?_,C.oia,C.iia⟩ C fun _=>fZ
      · rcases gz hq with rfl|hq
        · exact hb.1
        · exact C.oa q hq
      · rcases h with⟨q,h1,h2,h3⟩|h
        · exact .inl ⟨q,tM hk.1.2 h1,h2,h3⟩
        · exact .inr h
    · rename_i hk
      rw [if_neg hk];exact qQ C
  simp only [if_neg k5] at ok⊢
  by_cases k6:a.kind=6
  · simp only [if_pos k6] at ok⊢
    unfold bz at ok⊢
    split at ok
    · rename_i hk
      rw [if_pos hk]
      have K:SubsKeep w.a.subs (dI w.a a.pos):=SubsKeep.map fun s _=>by
        rw [iS];split
        · exact⟨rfl,rfl,rfl,rfl,rfl,.inr rfl⟩
        · exact SubKeep.refl s
      refine NL ⟨rfl,rfl,rfl,rfl,rfl,⟨[],zP⟩,⟨ok.1,ok.2.trans C.sta⟩,⟨rfl,rfl,rfl,rfl⟩,K,fun h hh=>⟨h,hh,HalfKeep.refl h⟩,fun q hq=>C.oa q (g0 hq),C.fa,fun i d h=>?_,C.oia,C.iia⟩ C fun C' x hx=>?_
      · rcases h with⟨q,h1,h2,h3⟩|h
        · by_cases hn:q.id=a.pos
          · exact .inr (by dsimp only;rw [<-h2,hn];exact Db)
          · exact .inl ⟨q,qz h1 hn,h2,h3⟩
        · exact .inr (Dc h)
      · obtain⟨k,hk2,rfl⟩:=RO.1 hx
        exact⟨(A5 C' (oZ hk2)).1,nJ (by simp [t_,wo,aq])⟩
    · rename_i hk
      rw [if_neg hk];exact qQ C
  simp only [if_neg k6] at ok⊢
  unfold cp at ok⊢
  split at ok
  · rename_i hk
    rw [if_pos hk]
    simp only [t8,Ru,decide_eq_true_eq,df] at hk
    refine NL ⟨rfl,rfl,rfl,rfl,rfl,⟨[],zP⟩,⟨ok.1,ok.2.trans C.sta⟩,⟨rfl,rfl,rfl,rfl⟩,SubsKeep.st4 _ _,fun h hh=>⟨h,hh,HalfKeep.refl h⟩,C.oa,C.fa,fun _ _ h=>h,C.oia,C.iia⟩ C fun _=>mT ?_ (nJ (by simp [t_,aq]))
    have hl:a.pos.toNat < w.a.subs.length:=zO
    rw [cd hl]
    exact (A5 C (Rv hl)).1
  · rename_i hk
    rw [if_neg hk];exact qQ C
theorem NO {w w':WorldD} {l:List LetterD} (M:MildB w w') (C:Core w) (h:Core w'->Sent w' l):Go1 w w' l:=⟨(M.put C).core C,(M.put C).le,h ((M.put C).core C)⟩
theorem xn {w:WorldD} (C:Core w):Go1 w w []:=NO (MildB.refl C) C fun _=>fZ
theorem A6 {w:WorldD} (C:Core w) {s:SubD} (hs:s∈w.b.subs):¬ sideAt s.road.far=0/\¬ sideAt s.road.far=2:=by
  have:=(farB C hs).1
  omega
theorem Qi {w:WorldD} (C:Core w):Go1 w (inB w (dv w.b).1) (dv w.b).2:=by
  have ok:=uq C.okb
  have st:=(oY (e:=w.b)).trans C.stb
  unfold dv at ok st⊢
  split at ok
  · rename_i hk
    rw [if_pos hk] at st⊢
    refine NO ⟨rfl,rfl,rfl,rfl,rfl,⟨[],by simp [inB]⟩,⟨ok,st⟩,⟨rfl,rfl,rfl,rfl⟩,SubsKeep.refl _,List.Sublist.refl _,C.ob,C.fb,fun _ _ h=>h,zk C.oib,C.iib⟩ C fun C'=>?_
    simp only [kq,Ru,decide_eq_true_eq,kH] at hk
    rcases kp w.b with h0|⟨m,hm,e⟩
    · omega
    · rw [e,Ry,cd hm]
      obtain⟨f0,f1⟩:=A6 C (Rv hm)
      refine mT f0 ?_
      have hs:=qy C.oib hk.1.1
      constructor<;>(intro q1 q2;simp only [wn,aq,ac] at q1 q2;try omega)
      first|exact .inr hs|exact absurd q1 f1
  · rename_i hk
    rw [if_neg hk]
    exact xn C
theorem Fy:∀ {k:Nat} {w:WorldD},Core w->Go1 w (inB w (bZ k w.b).1) (bZ k w.b).2
  |0,w,C=>xn C
  |k+1,w,C=>by
    have h1:=Qi C
    have h2:=Fy (k:=k) h1.c
    exact h1.trans h2
theorem Qj {w:WorldD} (C:Core w):Sent w (ce w.b):=by
  unfold ce;split
  · rename_i hk
    simp only [CA,Ru,decide_eq_true_eq,RK,decide_eq_false_iff_not] at hk
    intro x hx
    obtain⟨q,hq,rfl⟩:=RO.1 hx
    have hq':=(RU.1 hq).1
    have hs:=oZ (nK hk.2)
    obtain⟨f0,f1⟩:=A6 C hs
    refine⟨f0,?_⟩
    constructor<;>(intro q1 q2;simp only [oh,aq,ac] at q1 q2;try omega)
    all_goals
      intro i d hm
      first
        |exact absurd q1 f1
        | (simp only [oh,aq] at hm
           injection hm with _ _ _ hi hd
           exact⟨by rw [<-hd];exact C.ob q hq',.inl ⟨q,hq',hi,hd⟩⟩)
  · exact fZ
theorem K_ {w:WorldD} {l:List LetterD} (C:Core w) (hl:Sent w l):Go1 w (inB w (bA w.b l).1) (bA w.b l).2:=by
  have h:=Fy (k:=3) C
  exact⟨h.c,h.le,mU (mU (hl.mono h.le) ((Qj C).mono h.le)) h.s⟩
theorem Qk {w:WorldD} (C:Core w):Go1 w (inB w (tick w.b).1) (tick w.b).2:=by
  have hst:=C.stb
  unfold tick
  by_cases hk:GF w.b=true
  · rw [if_pos hk,if_pos hst]
    have ok:OkE { cP w.b with subs:=w.b.subs.map bI }:=xm C.okb hk
    have M:MildB w (inB w { cP w.b with subs:=w.b.subs.map bI }):=by
      refine⟨rfl,rfl,rfl,rfl,rfl,⟨[],by simp [inB]⟩,⟨ok,hst⟩,⟨rfl,rfl,rfl,rfl⟩,SubsKeep.map fun s _=>dZ s,Sl,C.ob,C.fb,fun _ _ h=>h,K5 C.oib,C.iib⟩
    have g:Go1 w (inB w { cP w.b with subs:=w.b.subs.map bI }) (w.b.subs.flatMap (dO w.b)):=by
      refine NO M C fun C' x hx=>?_
      obtain⟨s,hs,hx⟩:=Sh.1 hx
      have S:=(C.sb s hs).st
      rw [dO,if_neg zO] at hx
      simp at hx
    have t:=K_ g.c g.s
    exact⟨t.c,g.le.trans t.le,t.s⟩
  · rw [if_neg hk];exact xn C
theorem Ql {w:WorldD} {a:ActD} (C:Core w) (G:SmallP w.b.inp) (hs:a.side=2) (hb:dx w a=false):Go1 w (aJ (eB w a) 2 (dq w.b a).1) (dq w.b a).2:=by
  have ok:=nF (a:=a) C.okb G
  have hE:bJ w a.side=w.b:=by rw [hs];rfl
  have heo:ax w.b=true:=jn.2 C.okb
  have hset:∀ (u:WorldD) (e:EndD),aJ u 2 e={ u with b:=e }:=fun u e=>rfl
  rw [hset]
  unfold dq at ok⊢
  unfold eB
  rw [hE]
  by_cases k1:a.kind=1
  · simp only [if_pos k1]
    rw [e7,if_neg zO]
    have ok1:=qv (t:=a.text) C.okb
    have hw:write w.b a.text=({ w.b with out:=(dh w.b.out a.text).1 },(dh w.b.out a.text).2):=Al heo
    rw [hw] at ok1
    rw [hw,bh,hw]
    dsimp only
    have M:MildB w { w with wroteB:=w.wroteB++a.text.take (dh w.b.out a.text).2,b:={ w.b with out:=(dh w.b.out a.text).1 } }:=
      ⟨rfl,rfl,rfl,rfl,rfl,⟨_,rfl⟩,⟨ok1.1,ok1.2.trans C.stb⟩,⟨rfl,rfl,rfl,rfl⟩,SubsKeep.refl _,List.Sublist.refl _,C.ob,C.fb,fun _ _ h=>h,Dh C.oib,C.iib⟩
    have g:=NO M C fun _=>fZ
    have g2:=Fy (k:=3) g.c
    exact g.trans g2
  simp only [if_neg k1] at ok⊢
  by_cases k2:a.kind=2
  · simp only [if_pos k2] at ok⊢
    rw [cL,if_neg zO]
    have hr:bu w.b a.many=({ w.b with inp:=(bs w.b.inp a.many).1 },(bs w.b.inp a.many).2):=Ao heo
    rw [hr] at ok⊢
    exact NO ⟨rfl,rfl,rfl,rfl,rfl,⟨[],zP⟩,⟨ok.1,ok.2.trans C.stb⟩,⟨rfl,rfl,rfl,rfl⟩,SubsKeep.refl _,List.Sublist.refl _,C.ob,C.fb,fun _ _ h=>h,C.oib,K3 C.iib⟩ C fun _=>fZ
  simp only [if_neg k2] at ok⊢
  by_cases k3:a.kind=3
  · simp only [if_pos k3]
    exact Qk C
  simp only [if_neg k3] at ok⊢
  by_cases k4:a.kind=4
  · simp only [if_pos k4]
    unfold manage
    rw [if_neg (fun hc=>by have:=C.sib;omega)]
    exact xn C
  simp only [if_neg k4] at ok⊢
  by_cases k5:a.kind=5
  · simp only [if_pos k5] at ok⊢
    unfold aN at ok⊢
    split at ok
    · rename_i hk
      rw [if_pos hk]
      simp only [EV,Ru,decide_eq_true_eq] at hk
      simp only [dx,k5,decide_true,Sr,SA,SE,decide_eq_true_eq,hs] at hb
      refine NO ⟨rfl,rfl,rfl,rfl,rfl,⟨[],zP⟩,⟨ok.1,ok.2.trans C.stb⟩,⟨rfl,rfl,rfl,rfl⟩,SubsKeep.refl _,List.Sublist.refl _,fun q hq=>?_,C.fb,fun i d h=>?_,C.oib,C.iib⟩ C fun _=>fZ
      · rcases gz hq with rfl|hq
        · exact hb.1
        · exact C.ob q hq
      · rcases h with⟨q,h1,h2,h3⟩|h
        · exact .inl ⟨q,tM hk.1.2 h1,h2,h3⟩
        · exact .inr h
    · rename_i hk
      rw [if_neg hk];exact xn C
  simp only [if_neg k5] at ok⊢
  by_cases k6:a.kind=6
  · simp only [if_pos k6] at ok⊢
    unfold bz at ok⊢
    split at ok
    · rename_i hk
      rw [if_pos hk]
      have K:SubsKeep w.b.subs (dI w.b a.pos):=SubsKeep.map fun s _=>by
        rw [iS];split
        · exact⟨rfl,rfl,rfl,rfl,rfl,.inr rfl⟩
        · exact SubKeep.refl s
      refine NO ⟨rfl,rfl,rfl,rfl,rfl,⟨[],zP⟩,⟨ok.1,ok.2.trans C.stb⟩,⟨rfl,rfl,rfl,rfl⟩,K,List.Sublist.refl _,fun q hq=>C.ob q (g0 hq),C.fb,fun i d h=>?_,C.oib,C.iib⟩ C fun C' x hx=>?_
      · rcases h with⟨q,h1,h2,h3⟩|h
        · by_cases hn:q.id=a.pos
          · exact .inr (by dsimp only;rw [<-h2,hn];exact Db)
          · exact .inl ⟨q,qz h1 hn,h2,h3⟩
        · exact .inr (Dc h)
      · obtain⟨k,hk2,rfl⟩:=RO.1 hx
        exact⟨(A6 C' (oZ hk2)).1,nJ (by simp [t_,wo,aq])⟩
    · rename_i hk
      rw [if_neg hk];exact xn C
  simp only [if_neg k6] at ok⊢
  unfold cp at ok⊢
  split at ok
  · rename_i hk
    rw [if_pos hk]
    simp only [t8,Ru,decide_eq_true_eq,df] at hk
    refine NO ⟨rfl,rfl,rfl,rfl,rfl,⟨[],zP⟩,⟨ok.1,ok.2.trans C.stb⟩,⟨rfl,rfl,rfl,rfl⟩,SubsKeep.st4 _ _,List.Sublist.refl _,C.ob,C.fb,fun _ _ h=>h,C.oib,C.iib⟩ C fun _=>mT ?_ (nJ (by simp [t_,aq]))
    have hl:a.pos.toNat < w.b.subs.length:=zO
    rw [cd hl]
    exact (A6 C (Rv hl)).1
  · rename_i hk
    rw [if_neg hk];exact xn C
theorem Fz {w:WorldD} {x:LetterD} (C:Core w) (h:dQ w x=true):(∀ k a b m n,x.tag=⟨k,a,b,m,n⟩->1000<=a->¬ k=0->k=1/\Loose w.nums n)/\Loose w.nums x.nonce/\Loose w.nums x.sgn/\Loose w.nums x.give:=by
 simp only [dQ,Ru,RK,decide_eq_false_iff_not,Sg,Sk,RT,decide_eq_true_eq,xf,and_true] at h
 obtain⟨⟨⟨h1,h2⟩,h3⟩,_,q2,q3,q4⟩:=h
 refine⟨fun k a b m n he ha hk=>?_,q2,q4,q3⟩
 simp only [jc,RT,decide_eq_true_eq,Ru,xf,R8] at h3
 rw [he] at h3
 rcases h3 with (h3|h3)|⟨u,u1,u2⟩
 ·rw [pU] at h3
  injection h3 with e
  exact absurd e hk
 ·rw [C.keys] at h3
  simp only [RR,List.not_mem_nil,or_false] at h3
  omega
 have:=C.tags u (R6 u1)
 rw [u2] at this
 exact this
theorem Dj {w:WorldD} {x:LetterD} (C:Core w) (h:dQ w x=true):LetI w x:=by
 obtain⟨no,q2,q4,_⟩:=Fz C h
 have n1:∀ k a b m n,x.tag=⟨k,a,b,m,n⟩->1000<=a->¬ k=0->¬ k=1->False:=fun k a b m n he ha hk h1=>h1 (no k a b m n he ha hk).1
 exact⟨fun _ _=>q2,fun _ _ m hm=>.inl (no _ _ _ _ _ hm C.kb zD).2,fun _ _ m n hm=>n1 _ _ _ _ _ hm C.kb zD zD,fun _ _=>.inl q4,fun _ _ i d hm=>(n1 _ _ _ _ _ hm C.kb zD zD).elim,fun _ _=>.inl q4,fun _ _=>.inl q2,fun _ _ m n hm=>(n1 _ _ _ _ _ hm C.ka zD zD).elim,fun _ _ i d hm=>(n1 _ _ _ _ _ hm C.ka zD zD).elim,fun _ _=>.inl q4⟩
theorem Inv.step {w w':WorldD} {l:List LetterD} {side:Int} (h:Inv w) (S:Step w w' l) (hb:w'.bag=w.bag) (hp:w'.past=w.past):Inv (az side w' l):=
 zj ⟨S.c,fun x hx=>(h.bag x (hb▸hx)).mono S.le,fun x hx=>(h.past x (hp▸hx)).mono S.le⟩ S.post
theorem A7 {w:WorldD} {l:List LetterD} (h:Inv w) (hl:∀ x∈l,LetI w x):Inv { w with bag:=l }:=by
 have L:Le w { w with bag:=l }:=qw rfl rfl (fun _ h=>h) rfl rfl
 exact⟨Df h.c,fun x hx=>(hl x hx).mono L,fun x hx=>(h.past x hx).mono L⟩
theorem IH {w:WorldD} {x:LetterD} (h:Inv w) (ga:SmallP w.a.inp) (gb:SmallP w.b.inp) (L:LetI w x):Inv (ed w x):=by
 rcases gr x.to with h0|h0|h0
 ·rw [ed,if_pos h0];exact h
 ·rw [ed,if_neg zO,iZ,if_pos (.inl h0),h0]
  exact h.step (K6 h.c ga L h0) rfl rfl
 rw [ed,if_neg zO,iZ,if_pos (.inr h0),h0]
 exact h.step (K8 h.c gb L h0) rfl rfl
theorem sC (w:WorldD) (a:ActD) (s:Int) (e:EndD):(aJ (eB w a) s e).bag=w.bag/\(aJ (eB w a) s e).past=w.past:=by
 unfold aJ eB e7 cL
 repeat' split
 all_goals exact⟨rfl,rfl⟩
theorem g_ {l:List LetterD} {n:Nat} (h:n < l.length):lV l n∈l:=by
 rw [lV,R9,Sb h];exact Rv h
theorem jQ {l:List LetterD} {n:Int} {x:LetterD} (h:x∈iz l n):x∈l:=(nC l n.toNat).subset h
theorem II {w:WorldD} {a:ActD} (h:Inv w) (ga:SmallP w.a.inp) (gb:SmallP w.b.inp):Inv (dy w a).1:=by
 unfold dy;split
 ·rename_i hok
  have hs:=iE hok
  have hp:=nz hok
  split
  ·unfold aU;split
   ·exact h
   rename_i hb
   have hb:dx w a=false:=by simpa using hb
   obtain⟨k1,k2⟩:=sC w a a.side (dq (bJ w a.side) a).1
   rcases hs with hs|hs
   ·have g:=Qh h.c ga hs hb
    have hE:bJ w a.side=w.a:=by rw [hs];rfl
    rw [hE] at k1 k2⊢
    rw [hs] at k1 k2⊢
    exact h.step g.step k1 k2
   have g:=Ql h.c gb hs hb
   have hE:bJ w a.side=w.b:=by rw [hs];rfl
   rw [hE] at k1 k2⊢
   rw [hs] at k1 k2⊢
   exact h.step g.step k1 k2
  have hout:Inv { w with bag:=iz w.bag a.pos }:=A7 h fun x hx=>h.bag x (jQ hx)
  have app:∀ x,LetI w x->Inv { w with bag:=w.bag++[x] }:=fun x hx=>A7 h fun y hy=>by
   rcases Rz.1 hy with hy|hy
   ·exact h.bag y hy
   rw [Rw.1 hy];exact hx
  unfold bq
  split
  ·split
   ·exact h
   rename_i hl
   split
   ·refine IH hout ga gb ?_
    exact (h.bag _ (g_ (show a.pos.toNat < w.bag.length by omega))).mono (qw rfl rfl (fun _ h=>h) rfl rfl)
   exact hout
  split
  ·split
   ·exact h
   rename_i hl
   rw [not_or] at hl
   exact app _ (h.bag _ (g_ zO))
  split
  ·split
   ·exact h
   rename_i hm
   split
   ·exact h
   exact app _ (Dj h.c (by simpa using hm))
  split
  ·exact h
  rename_i hl
  rw [not_or] at hl
  exact app _ (h.past _ (g_ zO))
 exact h
theorem Start.inv {w:WorldD} (S:Start w):Inv w:=by
 have h:=S.e
 simp only [startE,Ru,decide_eq_true_eq] at h
 obtain⟨⟨⟨⟨⟨⟨oa,ob⟩,a1,a2,a3,a4,a5,a6,a7,a8,a9,a10,a11,a12⟩,b1,b2,b3,b4,b5,b6,b7,b8⟩,c1,c2⟩,d1,d2,d3,d4,d5,d6⟩,e1,e2⟩:=h
 refine⟨⟨jn.1 oa,jn.1 ob,a1,a2,a3,a4,zO,zO,zO,zO,zO,S.keys,by rw [S.tags];simp,zO,zO,by rw [S.nums];simp,?_,by rw [e1];simp,?_,by rw [b1];simp,by rw [b2];simp,by rw [b2];simp,by rw [b3];decide,by rw [b4];decide,?_,?_,by rw [S.wa,c1];exact⟨by decide,rfl⟩,by rw [S.wb,c2];exact⟨by decide,rfl⟩,by rw [S.wb,S.ra];exact⟨d1,⟨[],by rw [d2];rfl⟩,by rw [d3];simp⟩,by rw [S.wa,S.rb];exact⟨d4,⟨[],by rw [d5];rfl⟩,by rw [d6];simp⟩⟩,by rw [S.bag];simp,by rw [S.past];simp⟩
 ·rw [S.nums,b2,e1,e2,a9,a10]
  intro s hs
  rw [Rw.1 hs]
  exact⟨by decide,zP,.inl rfl,by decide,by decide,⟨by decide,zP⟩,fun _=>⟨_,Rw.2 rfl,rfl,rfl,rfl⟩,by decide⟩
 ·rw [S.nums,e1,e2,a10]
  intro s hs
  rw [Rw.1 hs]
  exact⟨by decide,zP,.inl rfl,⟨_,Rw.2 rfl,by decide,rfl,rfl,rfl⟩⟩
 ·rw [b5]
  intro f hf
  rw [gf,Rw] at hf
  rw [hf]
  exact⟨by decide,.inl ⟨⟨0,21,false,true⟩,by rw [b4];simp [fV],rfl,rfl⟩⟩
 rw [b6]
 intro f hf
 rw [gf,Rw] at hf
 rw [hf]
 exact⟨by decide,.inl ⟨⟨0,11,false,true⟩,by rw [b3];simp [fV],rfl,rfl⟩⟩
theorem Start.ans {w:WorldD} (S:Start w):AnsW w:=by
 have h:=S.e
 simp only [startE,Ru,decide_eq_true_eq] at h
 obtain⟨⟨⟨⟨⟨⟨oa,ob⟩,a1,a2,a3,a4,a5,a6,a7,a8,a9,a10,a11,a12⟩,b1,b2,b3,b4,b5,b6,b7,b8⟩,c1,c2⟩,d1,d2,d3,d4,d5,d6⟩,e1,e2⟩:=h
 have y:∀ e:EndD,e.now=0->e.bucket=⟨1,3,3⟩->e.halfs=[]->e.subs.length<=8->AnsI [] e:=fun e h1 h2 h3 h4=>
  ⟨⟨zO,by rw [h2],by rw [h2],by rw [h2];decide,by rw [h3];simp,by rw [h3];simp,h4⟩,zP,fun f hf=>by rw [h2];simp only [cntF,SI,SJ];omega,fun f g hf hg=>by simp only [cntF,SI,SJ];omega⟩
 exact⟨by rw [S.na];exact y _ a11 b7 b1 (by rw [e1];decide),by rw [S.nb];exact y _ a12 b8 b2 (by rw [e2];decide)⟩
structure Same4 (e e':EndD):Prop where
 subs:e'.subs=e.subs
 far:e'.far=e.far
 inp:e'.inp=e.inp
 out:e'.out=e.out
theorem Same4.refl (e:EndD):Same4 e e:=⟨rfl,rfl,rfl,rfl⟩
structure Life (w:WorldD) (k:Nat):Prop where
 g:GoodW w k
 i:Inv w
 n:AnsW w
theorem Life.step {w:WorldD} {a:ActD} {k:Nat} (h:Life w k) (ha:a.text.length<=1048576):Life (dy w a).1 (k+1):=⟨lB h.g ha,II h.i h.g.a.p h.g.b.p,Fr h.n⟩
theorem dj {n:Int} (h: -4611686018427387904<=n/\n<=4611686018427387904):aR n:=⟨zO,zO⟩
theorem N9.i {n:Int} (h:N9 n):aR n:=by obtain⟨h1,h2⟩:=h;exact dj zO
theorem A8:1048576<=maxLen:=by decide
theorem OkE.wf {e:EndD} (h:OkE e) (g:GoodE e):e.wf:=by
 have n:=h.nums
 have fo:=dp h.out
 have fp:=cI h.inp g.p
 have o1:=fo.base;have o2:=fo.room;have o3:=fo.len;have o4:=fo.sent
 have m:=A8
 have s:=g.s
 have hb:=h.bucket
 simp only [bucketOk,Ru,df] at hb
 have p0:=fp.r0;have p1:=fp.r1;have p2:=fp.ready
 have s1:=h.side;have s2:=h.state
 have pk:aR e.policy.kind/\aR e.policy.many:=by
  have hc:=jA h.pol
  have:=Gm _ hc
  exact this
 have t1:=g.o
 refine⟨dj zO,dj zO,n.1.i,n.2.1.i,pk.1,pk.2,dj zO,dj zO,dj zO,zO,dj zO,dj zO,dj zO,dj zO,zO,n.2.2.1.i,n.2.2.2.1.i,n.2.2.2.2.i,fun y hy=>?_,fun y hy=>?_,fun y hy=>?_,fun y hy=>?_,fun y hy=>?_,fun y hy=>?_,fun y hy=>?_,?_,?_,?_,?_,?_,?_,?_⟩
 ·have:=h.own.el y hy;simp only [AdE] at this;exact⟨dj zO,dj zO⟩
 ·have:=h.far.el y hy;simp only [AdE] at this;exact⟨dj zO,dj zO⟩
 ·obtain⟨q1,⟨r1,r2,r3⟩,q2,q3,q4,q5,q6⟩:=h.subs.el y hy
  exact⟨r1.i,r2.i,r3.i,dj zO,q2.i,q3.i,q4.i,q5.i,q6.i⟩
 ·obtain⟨⟨r1,r2,r3⟩,q2,q3,q4,q5,q6⟩:=h.halfs.el y hy
  exact⟨r1.i,r2.i,r3.i,q2.i,q3.i,q4.i,q5.i,q6.i⟩
 ·obtain⟨q1,q2,q3⟩:=fp.texts y hy
  exact⟨dj zO,zO⟩
 ·have:=(h.done.el y hy).1;exact dj zO
 ·have:=(h.over.el y hy).1;exact dj zO
 ·have:=s.own;omega
 ·have:=s.far;omega
 ·have:=s.subs;omega
 ·have:=s.halfs;omega
 ·have:=s.list;omega
 ·have:=s.done;omega
 have:=s.over;omega
theorem Dk {x:LetterD} (h:cO x=true):x.wf:=by
 have m:=A8
 simp only [cO,Ru,df,RI,decide_eq_true_eq,KU] at h
 obtain⟨⟨h1,h2⟩,h3⟩:=h
 simp only [iF,List.forall_mem_cons] at h2
 obtain⟨a1,a2,a3,a4,a5,a6,a7,a8,a9,a10,a11,a12,a13,a14,a15,a16,_⟩:=h2
 exact⟨dj zO,a1.i,a2.i,a3.i,a4.i,a5.i,a6.i,a7.i,a8.i,a12.i,a13.i,a14.i,a15.i,a16.i,a9.i,a10.i,a11.i,zO⟩
theorem dR:aR 0:=⟨by decide,by decide⟩
theorem kt {r:RoadD} {kk k tk nn gv sg tk' to tt ta tb id ad ps:Int} {sp:Bool} {tx:List UInt8} (hr:RN r) (h:aR k/\aR tk/\aR nn/\aR gv/\aR sg/\aR tk'/\aR to/\aR tt/\aR ta/\aR tb/\aR id/\aR ad/\aR ps) (hk:aR kk) (ht:tx.length<=maxLen):
  LetterD.wf (aq r ⟨k,0,0,0,kk,tk,nn,gv,sg,⟨tk',to,tt,ta,tb⟩,id,ad,sp,ps,tx⟩):=by
 obtain⟨r1,r2,r3⟩:=hr
 obtain⟨h1,h2,h3,h4,h5,h6,h7,h8,h9,h10,h11,h12,h13⟩:=h
 exact⟨h1,r1.i,r2.i,r3.i,hk,h2,h3,h4,h5,h6,h7,h8,h9,h10,h11,h12,h13,ht⟩
theorem IJ {e:EndD} {x:LetterD} {Q:EndD×List LetterD->Prop} (h0:Q (e,[])) (h1:x.kind=1->Q (aV e x)) (h2:x.kind=2->Q (bC e x)) (h4:x.kind=4->Q (cj e x)) (h5:x.kind=5->Q (aW e x)) (h6:x.kind=6->Q (aF e x)) (h7:x.kind=7->Q (bg e x)) (h8:x.kind=8->Q (cF e x)) (h9:x.kind=9->Q (cG e x)) (h10:x.kind=10->Q (cH e x)) (h11:x.kind=11->Q (cJ e x)) (h12:x.kind=12->Q (cv e x)) (h13:x.kind=13->Q (bW e x)):Q (bO e x):=by
 by_cases hc:dD e x=true
 ·by_cases k1:x.kind=1
  ·rw [r_ hc k1];exact h1 k1
  by_cases k2:x.kind=2
  ·rw [se hc k2];exact h2 k2
  by_cases k4:x.kind=4
  ·rw [vP hc k4];exact h4 k4
  by_cases k5:x.kind=5
  ·rw [vQ hc k5];exact h5 k5
  by_cases k6:x.kind=6
  ·rw [vR hc k6];exact h6 k6
  by_cases k7:x.kind=7
  ·rw [vS hc k7];exact h7 k7
  by_cases k8:x.kind=8
  ·rw [vT hc k8];exact h8 k8
  by_cases k9:x.kind=9
  ·rw [vU hc k9];exact h9 k9
  by_cases k10:x.kind=10
  ·rw [nq hc k10];exact h10 k10
  by_cases k11:x.kind=11
  ·rw [qd hc k11];exact h11 k11
  by_cases k12:x.kind=12
  ·rw [qe hc k12];exact h12 k12
  by_cases k13:x.kind=13
  ·rw [nr hc k13];exact h13 k13
  rw [bO,if_pos hc,if_neg k1,if_neg k2,if_neg k4,if_neg k5,if_neg k6,if_neg k7,if_neg k8,if_neg k9,if_neg k10,if_neg k11,if_neg k12,if_neg k13];exact h0
 rw [oM (by simpa using hc)];exact h0
def GA (sb:List SubD) (s:SubD):Prop:=(s.give=0\/s.give=s.theirs+2\/∃ t∈sb,t.take=s.give)/\∀ t∈sb,t.take=s.give->t.give=s.take
def LC (w:WorldD) (x:LetterD):Prop:=sideAt x.to=1->x.kind=5->∀ m,x.tag=⟨1,w.b.key,w.a.key,x.nonce,m⟩->Loose w.nums m\/(x.give=x.nonce+2/\∀ t∈w.b.subs,t.take=x.give->t.give=m+2)
theorem GA.like {sb:List SubD} {s r:SubD} (h:GA sb s) (h1:r.give=s.give) (h2:r.theirs=s.theirs) (h3:r.take=s.take):GA sb r:=by
 unfold GA at h⊢;rw [h1,h2,h3];exact h
theorem GA.zero {w:WorldD} (C:Core w) {s:SubD} (h:s.give=0):GA w.b.subs s:=⟨.inl h,fun t ht e=>by have:=(C.sb t ht).t4;omega⟩
structure HA (w:WorldD) (x:LetterD) (r:EndD×List LetterD):Prop where
 ga:(∀ s∈w.a.subs,GA w.b.subs s)->∀ s∈r.1.subs,GA w.b.subs s
 lt:∀ y∈r.2,¬ y.kind=11/\(y.kind=5->y.tag.one=w.a.key)
 ip:r.1.inp=w.a.inp\/(x.kind=11/\(∃ s∈w.a.subs,s.take=x.sgn)/\r.1.inp=putPiece w.a.inp x.pos x.text)
theorem OM {y:LetterD} {P:LetterD->Prop} (h:P y):∀ z∈[y],P z:=fun z hz=>by rw [Rw.1 hz];exact h
theorem HA.stay {w:WorldD} {x:LetterD}:HA w x (w.a,[]):=⟨fun h=>h,fun y hy=>by simp at hy,.inl rfl⟩
structure NewB (w:WorldD) (m:List SubD):Prop where
 ev:∀ t∈w.b.subs,∃ t'∈m,t'.road=t.road/\t'.take=t.take/\t'.give=t.give
 nb:∀ t'∈m,(∃ t∈w.b.subs,t'.take=t.take/\t'.give=t.give)\/∃ q∈w.b.halfs,t'.take=q.take/\t'.give=q.give/\∃ r∈w.a.subs,1000<=r.mine/\r.mine=q.theirs/\r.take=q.give
 pw:(w.b.subs.Pairwise fun s t=>¬ s.take=t.take)->m.Pairwise fun s t=>¬ s.take=t.take
theorem NewB.keep {w:WorldD} {m:List SubD} (K:SubsKeep w.b.subs m):NewB w m:=
 ⟨fun t ht=>by obtain⟨u,u1,u2⟩:=K.new ht;exact⟨u,u1,u2.road,u2.take,u2.give⟩,fun t ht=>by obtain⟨u,u1,u2⟩:=K.old ht;exact .inl ⟨u,u1,u2.take,u2.give⟩,K.pw⟩
structure HB (w:WorldD) (x:LetterD) (r:EndD×List LetterD):Prop where
 nb:NewB w r.1.subs
 lt:∀ y∈r.2,¬ y.kind=11/\(y.kind=5->y.give=y.nonce+2/\∀ t∈r.1.subs,¬ t.take=y.give)
 ip:r.1.inp=w.b.inp\/(x.kind=11/\(∃ s∈w.b.subs,s.take=x.sgn)/\r.1.inp=putPiece w.b.inp x.pos x.text)
theorem HB.stay {w:WorldD} {x:LetterD}:HB w x (w.b,[]):=⟨.keep (SubsKeep.refl _),fun y hy=>by simp at hy,.inl rfl⟩
inductive HF (e:EndD) (x:LetterD):EndD×List LetterD->Prop
 |stay:HF e x (e,[])
 |other (r:EndD×List LetterD) (k:x.kind=1\/x.kind=2\/x.kind=10\/x.kind=13):HF e x r
 |join1 (k:x.kind=4) (ok:mu e x=true) (n:Nat) (hn:n < e.halfs.length) (hr:e.halfs[n].road=roadOf x) (h1:e.halfs[n].theirs=x.nonce) (h2:e.halfs[n].give=x.give):
   HF e x ({ e with bucket:=(cK e.bucket).1,halfs:=e.halfs.set n { e.halfs[n] with till:=e.now+6 } },[dg e (roadOf x) e.halfs[n]])
 |join2 (k:x.kind=4) (ok:mu e x=true) (no:fd e x=false):
   HF e x ({ e with bucket:=(cK e.bucket).1,draw:=e.draw+4,halfs:=(bF e.halfs (aw e x)).1 },[dg e (roadOf x) (aw e x)])
 |back (k:x.kind=5) (n:Nat) (hn:n < e.subs.length) (h1:e.subs[n].state=1) (hr:e.subs[n].road=roadOf x) (ht:x.tag=⟨1,e.peer,e.key,x.nonce,e.subs[n].mine⟩):
   HF e x ({ e with subs:=e.subs.set n (eD e.subs[n] x) },[ci e (eD e.subs[n] x)])
 |done1 (k:x.kind=6) (i:Nat) (hi:i < e.halfs.length) (hr:e.halfs[i].road=roadOf x) (h8:e.subs.length < 8) (ht:x.tag=⟨2,e.peer,e.key,e.halfs[i].theirs,e.halfs[i].mine⟩) (m:List SubD)
   (hm:m=e.subs\/∃ (n:Nat) (hn:n < e.subs.length),e.subs[n].road=roadOf x/\¬ e.subs[n].state=4/\m=e.subs.set n { e.subs[n] with state:=4 }):
   HF e x ({ e with subs:=m++[gS (roadOf x) e.halfs[i]],halfs:=bV e.halfs (roadOf x) },[pY (roadOf x) e.halfs[i].give])
 |done2 (k:x.kind=6) (n:Nat) (hn:n < e.subs.length) (h3:e.subs[n].state=3) (hr:e.subs[n].road=roadOf x) (ht:x.tag=⟨2,e.peer,e.key,e.subs[n].theirs,e.subs[n].mine⟩):
   HF e x (e,[pY (roadOf x) e.subs[n].give])
 |ack (k:x.kind=7) (n:Nat) (hn:n < e.subs.length) (h2:e.subs[n].state=2) (hr:e.subs[n].road=roadOf x) (ht:e.subs[n].take=x.sgn):
   HF e x ({ e with subs:=e.subs.set n { e.subs[n] with state:=3 } },[])
 |addr (k:x.kind=8) (n:Nat) (hn:n < e.subs.length) (h3:e.subs[n].state=3) (hr:e.subs[n].road=roadOf x) (hs:e.subs[n].take=x.sgn) (ht:x.tag=⟨3,e.peer,e.key,x.id,x.addr⟩) (hp:(bi e.far (ic x)).2=true):
   HF e x ({ e with far:=(bi e.far (ic x)).1 },[ti x e.subs[n].give])
 |echo (k:x.kind=9) (i:Nat) (hi:i < e.own.length) (h1:e.own[i].id=x.id) (h2:e.own[i].addr=x.addr):
   HF e x ({ e with own:=e.own.set i { e.own[i] with told:=true } },[])
 |data (k:x.kind=11) (n:Nat) (hn:n < e.subs.length) (h3:e.subs[n].state=3) (hr:e.subs[n].road=roadOf x) (hs:e.subs[n].take=x.sgn):
   HF e x ({ e with inp:=vL e x },[vM x e.subs[n].give (nextOf (vL e x))])
 |came (k:x.kind=12) (n:Nat) (hn:n < e.subs.length) (h3:e.subs[n].state=3) (hr:e.subs[n].road=roadOf x) (hs:e.subs[n].take=x.sgn):
   HF e x ({ e with out:=came e.out x.pos },[])
theorem nL (e:EndD) (x:LetterD):HF e x (bO e x):=by
 refine IJ .stay (fun k=>.other _ zO) (fun k=>.other _ zO) (fun k=>?_) (fun k=>?_) (fun k=>?_) (fun k=>?_) (fun k=>?_) (fun k=>?_) (fun k=>.other _ zO) (fun k=>?_) (fun k=>?_) (fun k=>.other _ zO)
 ·by_cases h:mu e x=true
  ·by_cases hs:fd e x=true
   ·have hs':=hs
    simp only [fd,Ru,decide_eq_true_eq] at hs'
    obtain⟨n,e1,hn,hr⟩:=lE hs'.1.1
    have hj:p_ e x=e.halfs[n]:=by rw [p_,e1,Ry,eJ hn]
    rw [hj] at hs'
    rw [P2 h hs e1 hn]
    exact .join1 k h n hn hr hs'.1.2 hs'.2
   have hs':fd e x=false:=by simpa using hs
   rw [P3 h hs']
   exact .join2 k h hs'
  rw [P1 (by simpa using h)];exact .stay
 ·by_cases h:rT e x=true
  ·have h':=h
   simp only [rT,Ru,decide_eq_true_eq] at h'
   obtain⟨⟨⟨_,q4⟩,q5⟩,q6⟩:=h'
   obtain⟨n,e1,hn,_,hr,_⟩:=kK q4
   rw [e1,Ry,bX hn] at q5 q6
   rw [PX h e1 hn]
   exact .back k n hn q5 hr q6
  rw [Oj (by simpa using h)];exact .stay
 ·by_cases h:pZ e x=true
  ·by_cases ha:tZ e x=true
   ·have ha':=ha
    simp only [tZ,Ru,decide_eq_true_eq] at ha'
    obtain⟨i,e1,hi,hr⟩:=lE ha'.1.1
    have hj:p_ e x=e.halfs[i]:=by rw [p_,e1,Ry,eJ hi]
    rw [hj] at ha'
    rcases jH e.subs (roadOf x) with g|g
    ·rw [NI h ha e1 hi g]
     exact .done1 k i hi hr ha'.1.2 ha'.2 _ (.inl rfl)
    obtain⟨n,e2,hn,n4,hrn,_⟩:=kK g.1
    rw [NH h ha e1 hi e2 hn]
    exact .done1 k i hi hr ha'.1.2 ha'.2 _ (.inr ⟨n,hn,hrn,n4,rfl⟩)
   have ha':tZ e x=false:=by simpa using ha
   by_cases hb:HS e x=true
   ·have hb':=hb
    simp only [HS,Ru,decide_eq_true_eq] at hb'
    obtain⟨n,e2,hn,n4,hrn,_⟩:=kK hb'.1.1
    have hj:LF e x=e.subs[n]:=by rw [LF,e2,Ry,bX hn]
    rw [hj] at hb'
    rw [P0 h ha' hb e2 hn]
    exact .done2 k n hn hb'.1.2 hrn hb'.2
   rw [J9 h ha' (by simpa using hb)];exact .stay
  rw [Ok (by simpa using h)];exact .stay
 ·rw [bg];(try dsimp only);split
  ·rename_i hk
   simp only [lQ,Ru,decide_eq_true_eq] at hk
   obtain⟨⟨⟨_,q3⟩,q4⟩,q5⟩:=hk
   obtain⟨n,e1,hn,_,hr,_⟩:=kK q3
   rw [e1,Ry] at q4 q5⊢
   rw [bX hn] at q4 q5
   rw [eO hn]
   exact .ack k n hn q4 hr q5
  exact .stay
 ·by_cases h:je e x=true
  ·have h':=h
   simp only [je,Ru,decide_eq_true_eq] at h'
   obtain⟨⟨⟨⟨q1,q2⟩,q3⟩,q4⟩,q5⟩:=h'
   obtain⟨n,e1,_,hn,h3,hs,hr,_⟩:=AX q1
   rw [vD h e1 hn]
   exact .addr k n hn h3 hr hs q2 q5
  rw [vC (by simpa using h)];exact .stay
 ·by_cases h:iv e x=true
  ·have h':=h
   simp only [iv,Ru,decide_eq_true_eq] at h'
   obtain⟨i,e1,hi,h1⟩:=lF h'.1.2
   rw [vF h e1 hi]
   have h2:=h'.2
   rw [e1,Ry,fD hi] at h2
   exact .echo k i hi h1 h2
  rw [vE (by simpa using h)];exact .stay
 ·by_cases h:mz e x=true
  ·have h':=h
   simp only [mz,Ru,decide_eq_true_eq] at h'
   obtain⟨n,e1,_,hn,h3,hs,hr,_⟩:=AX h'.1
   rw [vO h e1 hn]
   exact .data k n hn h3 hr hs
  rw [vN (by simpa using h)];exact .stay
 rw [cv];(try dsimp only);split
 ·rename_i hk
  obtain⟨n,_,_,hn,h3,hs,hr,_⟩:=AX hk
  exact .came k n hn h3 hr hs
 exact .stay
def rdA:RoadD:=⟨11,21,0⟩
def subA0:SubD:=⟨rdA,3,false,0,0,1004,1003,0⟩
def subB0:SubD:=⟨bk rdA,3,false,0,0,1003,1004,0⟩
def Later (s t:SubD):Prop:=s.road=t.road->s.state=4/\(t.state=1\/s.theirs < t.theirs)
structure CS (sa sb:List SubD) (hb:List HalfD):Prop where
 a0:∃ r,sa=subA0::r
 b0:∃ r,sb=subB0::r
 pw:sa.Pairwise Later
 hl:∀ s∈sa,¬ s.state=1->∀ h∈hb,h.road=bk s.road->s.theirs<=h.mine
 on:∀ s∈sa,¬ s.state=4->∀ t∈sb,t.give=s.take->t.state=3
 xx:∀ s∈sa,∀ t∈sb,t.give=s.take->t.theirs=s.mine/\t.mine=s.theirs
 tr:∀ s∈sa,s.state=2->s.tries<=8
theorem ut {s:SubD} (h:s.state=4):bI s=s:=by rw [bI,if_neg zO]
theorem GU {s:SubD} (h:s.state=1):(bI s).state=1:=by rw [bI,if_pos (.inl h),if_neg zO];exact h
theorem GV {s:SubD} (h:s.state=3):bI s=s:=by rw [bI,if_neg zO]
theorem FA {s:SubD} (h:¬ (bI s).state=1):¬ s.state=1:=fun hc=>h (GU hc)
theorem FB {s:SubD} (h:¬ (bI s).state=4):¬ s.state=4:=fun hc=>h (by rw [ut hc];exact hc)
theorem CS.tick {sa sb:List SubD} {hb:List HalfD} (K:CS sa sb hb):CS (sa.map bI) sb hb:=by
 obtain⟨r,hr⟩:=K.a0
 refine⟨⟨r.map bI,by rw [hr,SL,GV zF]⟩,K.b0,?_,fun s hs h1 h hh hr=>?_,fun s hs h4 t ht hg=>?_,fun s hs t ht hg=>?_,fun s hs h2=>?_⟩
 ·rw [List.pairwise_map]
  refine K.pw.imp fun {s t} h hr=>?_
  have k1:=dZ s
  have k2:=dZ t
  rw [k1.road,k2.road] at hr
  obtain⟨e1,e2⟩:=h hr
  refine⟨by rw [ut e1];exact e1,?_⟩
  rcases e2 with e2|e2
  ·exact .inl (GU e2)
  exact .inr (by rw [k1.theirs,k2.theirs];exact e2)
 ·obtain⟨q,hq,rfl⟩:=RO.1 hs
  have k:=dZ q
  rw [k.road] at hr
  rw [k.theirs]
  exact K.hl q hq (FA h1) h hh hr
 ·obtain⟨q,hq,rfl⟩:=RO.1 hs
  rw [(dZ q).take] at hg
  exact K.on q hq (FB h4) t ht hg
 ·obtain⟨q,hq,rfl⟩:=RO.1 hs
  have k:=dZ q
  rw [k.take] at hg
  rw [k.mine,k.theirs]
  exact K.xx q hq t ht hg
 obtain⟨q,hq,rfl⟩:=RO.1 hs
 rw [bI] at h2⊢
 split at h2
 ·rename_i hc
  rw [if_pos hc]
  split at h2
  ·simp at h2
  rename_i hn
  rw [if_neg hn]
  dsimp only at h2⊢
  omega
 rename_i hc
 rw [if_neg hc];omega
theorem CS.half {sa sb:List SubD} {hb hb':List HalfD} (K:CS sa sb hb) {d:Int} (hd:∀ s∈sa,s.theirs < d) (h:∀ k∈hb',d<=k.mine\/∃ q∈hb,q.mine=k.mine/\q.road=k.road):CS sa sb hb':=by
 refine⟨K.a0,K.b0,K.pw,fun s hs h1 k hk hr=>?_,K.on,K.xx,K.tr⟩
 rcases h k hk with e|⟨q,q1,q2,q3⟩
 ·have:=hd s hs;omega
 rw [<-q2];exact K.hl s hs h1 q q1 (by rw [q3];exact hr)
theorem CS.sub {sa sb:List SubD} {hb hb':List HalfD} (K:CS sa sb hb) (h:∀ k∈hb',k∈hb):CS sa sb hb':=⟨K.a0,K.b0,K.pw,fun s hs h1 k hk hr=>K.hl s hs h1 k (h k hk) hr,K.on,K.xx,K.tr⟩
theorem CS.ask {sa sb:List SubD} {hb:List HalfD} (K:CS sa sb hb) {n:SubD} (h1:n.state=1) (hr:∀ s∈sa,s.state=4\/¬ s.road=n.road) (hg:∀ t∈sb,¬ t.give=n.take):CS (sa++[n]) sb hb:=by
 obtain⟨r,e⟩:=K.a0
 have mem:∀ s∈sa++[n],s∈sa\/s=n:=fun s hs=>by
  rcases Rz.1 hs with hs|hs
  ·exact .inl hs
  exact .inr (Rw.1 hs)
 refine⟨⟨r++[n],by rw [e,Sy]⟩,K.b0,?_,fun s hs g=>?_,fun s hs g t ht gt=>?_,fun s hs t ht gt=>?_,fun s hs g=>?_⟩
 ·rw [RP]
  refine⟨K.pw,RL ..,fun s hs t ht e=>?_⟩
  rw [Rw.1 ht] at e⊢
  rcases hr s hs with q|q
  ·exact⟨q,.inl h1⟩
  exact absurd e q
 ·rcases mem s hs with hs|rfl
  ·exact K.hl s hs g
  exact absurd h1 g
 ·rcases mem s hs with hs|rfl
  ·exact K.on s hs g t ht gt
  exact absurd gt (hg t ht)
 ·rcases mem s hs with hs|rfl
  ·exact K.xx s hs t ht gt
  exact absurd gt (hg t ht)
 rcases mem s hs with hs|rfl
 ·exact K.tr s hs g
 omega
theorem La {α:Type} {R:α->α->Prop} {l:List α} {n:Nat} {x:α} (hn:n < l.length) (p:l.Pairwise R) (h1:∀ (i:Nat) (hi:i < n),R (l[i]' zO) x) (h2:∀ (j:Nat) (hj:j < l.length),n < j->R x l[j]):(l.set n x).Pairwise R:=by
 rw [RA] at p⊢
 intro i j hi hj hij
 rw [RF] at hi hj
 rw [RG,RG]
 split
 ·split
  ·omega
  rename_i e _;subst e;exact h2 j hj hij
 split
 ·rename_i e;subst e;exact h1 i hij
 exact p i j hi hj hij
theorem Later.at {sa:List SubD} (p:sa.Pairwise Later) {i j:Nat} (hi:i < sa.length) (hj:j < sa.length) (h:i < j):Later sa[i] sa[j]:=by
 rw [RA] at p;exact p i j hi hj h
theorem CS.first {sa sb:List SubD} {hb:List HalfD} (K:CS sa sb hb) {s:SubD} (hs:s∈sa) (h:s.road=rdA):s=subA0:=by
 obtain⟨r,e⟩:=K.a0
 have p:=K.pw
 rw [e] at hs p
 rcases RR.1 hs with hs|hs
 ·exact hs
 have:=(Sd.1 p).1 s hs h.symm
 exact absurd this.1 zD
theorem CS.back {sa sb:List SubD} {hb:List HalfD} (K:CS sa sb hb) {n:Nat} (hn:n < sa.length) (h1:sa[n].state=1) {x:LetterD} (ho:∀ (i:Nat) (hi:i < n),(sa[i]' zO).road=sa[n].road->(sa[i]' zO).theirs < x.nonce) (hh:∀ h∈hb,h.road=bk sa[n].road->x.nonce<=h.mine)
  (hg:∀ t∈sb,¬ t.give=sa[n].take):CS (sa.set n (eD sa[n] x)) sb hb:=by
 obtain⟨r,e⟩:=K.a0
 have h0:¬ n=0:=fun hc=>by subst hc;simp [e,subA0] at h1
 have mem:∀ s∈sa.set n (eD sa[n] x),s∈sa\/s=eD sa[n] x:=fun s hs=>RB hs
 refine⟨⟨r.set (n - 1) (eD sa[n] x),?_⟩,K.b0,?_,fun s hs g=>?_,fun s hs g t ht gt=>?_,fun s hs t ht gt=>?_,fun s hs g=>?_⟩
 ·obtain⟨m,rfl⟩:∃ m,n=m+1:=⟨n - 1,zO⟩
  conv=>lhs;rw [show sa.set (m+1) (eD sa[m+1] x)=(subA0::r).set (m+1) (eD sa[m+1] x) by rw [<-e]]
  rw [Se,So]
 ·refine La hn K.pw (fun i hi hr=>?_) (fun j hj hl hr=>?_)
  ·exact⟨(Later.at K.pw zO hn hi hr).1,.inr (ho i hi hr)⟩
  have:=(Later.at K.pw hn hj hl hr).1
  omega
 ·rcases mem s hs with hs|rfl
  ·exact K.hl s hs g
  exact hh
 ·rcases mem s hs with hs|rfl
  ·exact K.on s hs g t ht gt
  exact absurd gt (hg t ht)
 ·rcases mem s hs with hs|rfl
  ·exact K.xx s hs t ht gt
  exact absurd gt (hg t ht)
 rcases mem s hs with hs|rfl
 ·exact K.tr s hs g
 simp [eD]
theorem CS.ack {sa sb:List SubD} {hb:List HalfD} (K:CS sa sb hb) {n:Nat} (hn:n < sa.length) (h2:sa[n].state=2):CS (sa.set n { sa[n] with state:=3 }) sb hb:=by
 obtain⟨r,e⟩:=K.a0
 have h0:¬ n=0:=fun hc=>by subst hc;simp [e,subA0] at h2
 have mem:∀ s∈sa.set n { sa[n] with state:=3 },s∈sa\/s={ sa[n] with state:=3 }:=fun s hs=>RB hs
 have hm:=Rv hn
 refine⟨⟨r.set (n - 1) { sa[n] with state:=3 },?_⟩,K.b0,?_,fun s hs g=>?_,fun s hs g t ht gt=>?_,fun s hs t ht gt=>?_,fun s hs g=>?_⟩
 ·obtain⟨m,rfl⟩:∃ m,n=m+1:=⟨n - 1,zO⟩
  conv=>lhs;rw [show sa.set (m+1) { sa[m+1] with state:=3 }=(subA0::r).set (m+1) { sa[m+1] with state:=3 } by rw [<-e]]
  rw [Se,So]
 ·refine La hn K.pw (fun i hi hr=>?_) (fun j hj hl hr=>?_)
  ·obtain⟨q1,q2⟩:=Later.at K.pw zO hn hi hr
   exact⟨q1,.inr (by rcases q2 with q2|q2;omega;exact q2)⟩
  have:=(Later.at K.pw hn hj hl hr).1
  omega
 ·rcases mem s hs with hs|rfl
  ·exact K.hl s hs g
  exact K.hl sa[n] hm zO
 ·rcases mem s hs with hs|rfl
  ·exact K.on s hs g t ht gt
  exact K.on sa[n] hm zO t ht gt
 ·rcases mem s hs with hs|rfl
  ·exact K.xx s hs t ht gt
  exact K.xx sa[n] hm t ht gt
 rcases mem s hs with hs|rfl
 ·exact K.tr s hs g
 simp at g
theorem xo {w:WorldD} (C:Core w) {s t:SubD} (hs:s∈w.a.subs) (ht:t∈w.a.subs) (h:1000<=s.mine) (e:s.mine=t.mine):s=t:=by
 have h1:=(C.sa s hs).mine
 have h2:=(C.sa t ht).mine
 exact kL C.sad hs ht zO
theorem CS.done {w:WorldD} (C:Core w) (K:CS w.a.subs w.b.subs w.b.halfs) {h:HalfD} (hh:h∈w.b.halfs) (hn:w.nums=[]) {m:List SubD} (a:SubD) (ha:a∈w.a.subs) (a1:¬ a.state=1) (a2:a.mine=h.theirs) (a3:a.theirs=h.mine) (a4:h.road=bk a.road) (a5:1000<=a.mine)
  (hm:m=w.b.subs\/∃ (n:Nat) (hn:n < w.b.subs.length),w.b.subs[n].road=h.road/\¬ w.b.subs[n].state=4/\m=w.b.subs.set n { w.b.subs[n] with state:=4 }):
  CS w.a.subs (m++[gS h.road h]) (bV w.b.halfs h.road):=by
 obtain⟨r,e⟩:=K.b0
 have H:=C.hb h hh
 obtain⟨s3,s31,s32,s33,s34,s35⟩:∃ s∈w.a.subs,1000<=s.mine/\s.mine=h.theirs/\s.take=h.give/\s.road=bk h.road:=by
  rcases H.th with g|⟨_,g⟩
  ·rcases g with g|g
   ·omega
   rw [hn] at g;simp at g
  exact g
 have ea:a=s3:=xo C ha s31 a5 zO
 subst ea
 have hnew:∀ t∈m,(t∈w.b.subs\/∃ q∈w.b.subs,q.road=h.road/\¬ q.state=4/\t={ q with state:=4 }):=by
  intro t ht
  rcases hm with rfl|⟨n,hn,e1,e2,rfl⟩
  ·exact .inl ht
  rcases RB ht with ht|ht
  ·exact .inl ht
  exact .inr ⟨_,Rv hn,e1,e2,ht⟩
 have mem:∀ t∈m++[gS h.road h],t∈m\/t=gS h.road h:=fun t ht=>by
  rcases Rz.1 ht with ht|ht
  ·exact .inl ht
  exact .inr (Rw.1 ht)
 have hsub:∀ k∈bV w.b.halfs h.road,k∈w.b.halfs:=fun k hk=>by
  rw [bV] at hk;split at hk
  ·exact hk
  exact (nC _ _).subset hk
 have hmine:∀ s∈w.a.subs,h.give=s.take->s=a:=fun s hs hg=>kL C.sad hs ha (by rw [s34];exact hg.symm)
 refine⟨K.a0,?_,K.pw,fun s hs g k hk=>K.hl s hs g k (hsub k hk),fun s hs g t ht gt=>?_,fun s hs t ht gt=>?_,K.tr⟩
 ·rcases hm with rfl|⟨n,hn,e1,e2,rfl⟩
  ·exact⟨r++[gS h.road h],by rw [e,Sy]⟩
  have h0:¬ n=0:=fun hc=>by
   subst hc
   have e3:w.b.subs[0]=subB0:=by simp [e]
   rw [e3,a4] at e1
   have:a.road=rdA:=by
    have:=congrArg bk e1
    rw [zi] at this
    rw [<-this];rfl
   have:=K.first ha this
   rw [this] at a5
   simp [subA0] at a5
  obtain⟨k,rfl⟩:∃ k,n=k+1:=⟨n - 1,zO⟩
  refine⟨r.set k { w.b.subs[k+1] with state:=4 }++[gS h.road h],?_⟩
  conv=>lhs;rw [show w.b.subs.set (k+1) { w.b.subs[k+1] with state:=4 }=(subB0::r).set (k+1) { w.b.subs[k+1] with state:=4 } by rw [<-e]]
  rw [Se,Sy]
 ·rcases mem t ht with ht|rfl
  ·rcases hnew t ht with ht|⟨q,q1,q2,q3,rfl⟩
   ·exact K.on s hs g t ht gt
   exfalso
   have gt':q.give=s.take:=gt
   obtain⟨z,z1,z2,z3,z4,z5⟩:=(C.sb q q1).like
   have ez:z=s:=kL C.sad z1 hs (by rw [z4];exact gt')
   subst ez
   have hrd:z.road=a.road:=by rw [z3,q2,s35]
   by_cases hza:z=a
   ·subst hza
    have:=(C.sa z hs).th.2 h hh a3.symm
    exact H.sep q q1 (by rw [this.2.1,z5])
   obtain⟨i,hi,ei⟩:=RC hs
   obtain⟨j,hj,ej⟩:=RC ha
   rcases R4 i j with hl|hl|hl
   ·have:=(Later.at K.pw hi hj hl (by rw [ei,ej];exact hrd)).1
    rw [ei] at this
    exact g this
   ·subst hl;exact hza (by rw [<-ei,ej])
   have:=(Later.at K.pw hj hi hl (by rw [ei,ej];exact hrd.symm)).2
   rw [ei,ej] at this
   have h2:=K.hl z hs z2 h hh (by rw [hrd];exact a4)
   rcases this with q|q
   ·exact z2 q
   omega
  rfl
 rcases mem t ht with ht|rfl
 ·rcases hnew t ht with ht|⟨q,q1,q2,q3,rfl⟩
  ·exact K.xx s hs t ht gt
  exact K.xx s hs q q1 gt
 have:=hmine s hs gt
 subst this
 exact⟨a2.symm,a3.symm⟩
def Shape (b:Int) (l:List AddrD):Prop:=∃ (s t:Bool) (r:List AddrD),l=⟨0,b+1,s,t⟩::r/\∀ q∈r,q.id=1/\q.addr=b+2
def FC (b:Int) (a:AddrD):Prop:=a.id=0/\a.addr=b+1\/a.id=1/\a.addr=b+2
theorem Shape.fits {b:Int} {l:List AddrD} (h:Shape b l) {a:AddrD} (ha:a∈l):FC b a:=by
 obtain⟨s,t,r,rfl,hr⟩:=h
 rcases RR.1 ha with rfl|ha
 ·exact .inl ⟨rfl,rfl⟩
 exact .inr (hr a ha)
theorem Lb {c:AddrD} {r:List AddrD} {n:Int} (h:c.id=n):aT (c::r) n=0:=by
 have:=(jm (p:=fun a:AddrD=>a.id == n) (l:=c::r) (j:=0)).2 ⟨zP,by simpa using h,fun i hi=>by omega⟩
 exact this
theorem Shape.set {b:Int} {l:List AddrD} (h:Shape b l) {i:Nat} {a:AddrD} (hi:i < l.length) (h1:a.id=l[i].id) (h2:a.addr=l[i].addr):Shape b (l.set i a):=by
 obtain⟨s,t,r,rfl,hr⟩:=h
 rcases i with _|i
 ·refine⟨a.spare,a.told,r,?_,hr⟩
  simp only [Sf] at h1 h2
  rw [List.set_cons_zero,<-h1,<-h2]
 refine⟨s,t,r.set i a,by rw [Se],fun q hq=>?_⟩
 simp only [List.getElem_cons_succ] at h1 h2
 rcases RB hq with hq|hq
 ·exact hr q hq
 rw [hq,h1,h2];exact hr _ (Rv _)
theorem Shape.put {b:Int} {l:List AddrD} (h:Shape b l) {a:AddrD} (ha:FC b a):Shape b (bi l a).1/\((bi l a).2=true->a∈(bi l a).1)/\∀ f∈l,∃ f'∈(bi l a).1,f'.id=f.id:=by
 have h':=h
 obtain⟨s,t,r,rfl,hr⟩:=h
 by_cases hok:dK (cC (⟨0,b+1,s,t⟩::r) a)=true
 ·rw [yL hok]
  dsimp only
  by_cases hat:0<=aT (⟨0,b+1,s,t⟩::r) a.id
  ·rw [cC,if_pos hat]
   obtain⟨n,e,hn,hid⟩:=lF hat
   rw [e,Ry]
   refine⟨h'.set hn hid.symm ?_,fun _=>R0 hn a,fun f hf=>?_⟩
   ·have:=h'.fits (Rv hn)
    simp only [FC] at this ha
    omega
   obtain⟨j,hj,rfl⟩:=RC hf
   by_cases hjn:j=n
   ·subst hjn;exact⟨a,R0 hn a,hid.symm⟩
   refine⟨_,R7.2 ⟨j,by rw [RF];exact hj,rfl⟩,?_⟩
   rw [RG,if_neg zO]
  rw [cC,if_neg hat]
  have h1:a.id=1:=by
   rcases ha with ha|ha
   ·exact absurd (show 0<=aT (⟨0,b+1,s,t⟩::r) a.id by rw [Lb (by exact ha.1.symm)];exact Rx _) hat
   exact ha.1
  have hlow:z_ (⟨0,b+1,s,t⟩::r) a.id=1:=by
   rw [z_,R1,if_pos (by simp [h1])]
   have:(r.takeWhile fun q=>decide (q.id < a.id))=[]:=by
    cases r with
    |nil=>rfl
    |cons q r=>
     rw [R1,if_neg]
     have:=(hr q (RW ..)).1
     simp [this,h1]
   rw [this];rfl
  rw [hlow]
  refine⟨⟨s,t,a::r,rfl,fun q hq=>?_⟩,fun _=>by simp,fun f hf=>⟨f,?_,rfl⟩⟩
  ·rcases RR.1 hq with rfl|hq
   ·exact⟨h1,by rcases ha with ha|ha<;>omega⟩
   exact hr q hq
  rcases RR.1 hf with rfl|hf
  ·simp
  simp [hf]
 rw [rN (by simpa using hok)]
 exact⟨h',fun h=>(by cases h),fun f hf=>⟨f,hf,rfl⟩⟩
theorem tN {f f':List AddrD} (hf:f.map AddrD.addr=f'.map AddrD.addr):∀ {l l':List AddrD} {acc:List RoadD},l.map AddrD.addr=l'.map AddrD.addr->ir f acc l=ir f' acc l'
 |[],[],acc,_=>rfl
 |[],_::_,acc,h=>by simp at h
 |_::_,[],acc,h=>by simp at h
 |a::l,a'::l',acc,h=>by
  simp only [SL,List.cons.injEq] at h
  have e:(f.map fun b=>(⟨a.addr,b.addr,0⟩:RoadD))=f'.map fun b=>(⟨a'.addr,b.addr,0⟩:RoadD):=by
   have h1:(f.map fun b=>(⟨a.addr,b.addr,0⟩:RoadD))=(f.map AddrD.addr).map fun x=>(⟨a.addr,x,0⟩:RoadD):=by simp [SM]
   have h2:(f'.map fun b=>(⟨a'.addr,b.addr,0⟩:RoadD))=(f'.map AddrD.addr).map fun x=>(⟨a'.addr,x,0⟩:RoadD):=by simp [SM]
   rw [h1,h2,hf,h.1]
  rw [ir,ir,e]
  exact tN hf h.2
theorem xp {l l':List AddrD} (h:l.map AddrD.addr=l'.map AddrD.addr):yD l=yD l':=by
 cases l<;>cases l'<;>simp_all [yD]
theorem Dl {p:PolicyD} {o o' f f':List AddrD} (ho:o.map AddrD.addr=o'.map AddrD.addr) (hf:f.map AddrD.addr=f'.map AddrD.addr):wanted p o f=wanted p o' f':=by
 have l1:o.length=o'.length:=by have:=congrArg List.length ho;simpa using this
 have l2:f.length=f'.length:=by have:=congrArg List.length hf;simpa using this
 unfold wanted
 rw [l1,l2,tN hf ho,xp ho,xp hf]
def ones (b:Int) (two:Bool):List AddrD:=if two then [⟨0,b+1,false,false⟩,⟨1,b+2,false,false⟩] else [⟨0,b+1,false,false⟩]
def hasTwo (l:List AddrD):Bool:=l.any fun a=>a.id == 1
theorem Shape.ones {b:Int} {l:List AddrD} (h:Shape b l) (ok:AdOk l):l.map AddrD.addr=(Go.Proofs.YtdiiopjaebnmfaaGreatDoor.ones b (hasTwo l)).map AddrD.addr:=by
 obtain⟨s,t,r,rfl,hr⟩:=h
 rcases r with _|⟨q,r⟩
 ·simp [hasTwo,Go.Proofs.YtdiiopjaebnmfaaGreatDoor.ones]
 obtain⟨q1,q2⟩:=hr q (RW ..)
 have:r=[]:=by
  rcases r with _|⟨z,r⟩
  ·rfl
  have p:=ok.pw
  simp only [Sd] at p
  have h1:=(p.2.1 z (RW ..)).1
  have h2:=(hr z zP).1
  omega
 subst this
 simp [hasTwo,Go.Proofs.YtdiiopjaebnmfaaGreatDoor.ones,q1,q2]
def wants (p:PolicyD) (two far2:Bool):List RoadD:=wanted p (ones 10 two) (ones 20 far2)
theorem zl {p:PolicyD} {o f:List AddrD} (ho:Shape 10 o) (oo:AdOk o) (hf:Shape 20 f) (of:AdOk f):wanted p o f=wants p (hasTwo o) (hasTwo f):=Dl (ho.ones oo) (hf.ones of)
theorem FD:(pols.all fun p=>[false,true].all fun a=>[false,true].all fun b=>
  decide ((wants p a b).length<=4) && (wants p a b).contains rdA && decide ((wants p a b).Nodup) &&
  (wants p a b).all (fun r=>((ones 10 a).any fun q=>q.addr == r.own) && ((ones 20 b).any fun q=>q.addr == r.far) && decide (0<=r.port) && decide (r.port<=3)) &&
  (wants p false b).all (fun r=>(wants p a b).contains r) && (wants p a false).all (fun r=>(wants p a b).contains r))=true:=by decide+kernel
structure WantF (p:PolicyD) (a b:Bool):Prop where
 len:(wants p a b).length<=4
 first:rdA∈wants p a b
 nd:(wants p a b).Nodup
 el:∀ r∈wants p a b,(∃ q∈ones 10 a,q.addr=r.own)/\(∃ q∈ones 20 b,q.addr=r.far)/\0<=r.port/\r.port<=3
 up1:∀ r∈wants p false b,r∈wants p a b
 up2:∀ r∈wants p a false,r∈wants p a b
theorem A9 {p:PolicyD} (hp:p∈pols) (a b:Bool):WantF p a b:=by
 have h:=RI.1 FD p hp
 have h:=RI.1 h a (by cases a<;>simp)
 have h:=RI.1 h b (by cases b<;>simp)
 simp only [Ru,decide_eq_true_eq,RI,List.contains_iff_mem,R8,beq_iff_eq] at h
 obtain⟨⟨⟨⟨⟨h1,h2⟩,h3⟩,h4⟩,h5⟩,h6⟩:=h
 exact⟨h1,h2,h3,fun r hr=>by obtain⟨⟨⟨g1,g2⟩,g3⟩,g4⟩:=h4 r hr;exact⟨g1,g2,g3,g4⟩,h5,h6⟩
theorem xq {p:PolicyD} (hp:p∈pols) {a b a' b':Bool} (ha:a=true->a'=true) (hb:b=true->b'=true) {r:RoadD} (h:r∈wants p a b):r∈wants p a' b':=by
 have h1:r∈wants p a' b:=by
  cases a
  ·exact (A9 hp a' b).up1 r h
  rw [ha rfl];exact h
 cases b
 ·exact (A9 hp a' b').up2 r h1
 rw [hb rfl];exact h1
structure CL (w:WorldD) (x:LetterD):Prop where
 kind:4<=x.kind/\x.kind<=12/\¬ x.kind=10
 to:¬ sideAt x.to=0
 to2:x.kind=4\/x.kind=6->sideAt x.to=2
 to1:x.kind=5\/x.kind=7->sideAt x.to=1
 k4:x.kind=4->1000<=x.nonce
 k5:x.kind=5->∃ (j:Nat) (hj:j < w.a.subs.length),1000<=w.a.subs[j].mine/\x.tag=⟨1,w.b.key,w.a.key,x.nonce,w.a.subs[j].mine⟩/\w.a.subs[j].road=roadOf x/\x.nonce < w.b.draw/\
  (∀ (i:Nat) (hi:i < j),(w.a.subs[i]' zO).road=roadOf x->(w.a.subs[i]' zO).theirs < x.nonce)/\∀ h∈w.b.halfs,h.road=bk (roadOf x)->x.nonce<=h.mine
 k9:x.kind=9->sideAt x.to=2->x.id=1->∃ f∈w.a.far,f.id=1
 k12a:x.kind=12->sideAt x.to=1->x.pos<=nextOf w.b.inp
 k12b:x.kind=12->sideAt x.to=2->x.pos<=nextOf w.a.inp
structure CE (p:PolicyD) (w:WorldD):Prop where
 cs:CS w.a.subs w.b.subs w.b.halfs
 nums:w.nums=[]
 pol:w.a.policy=p
 ownA:Shape 10 w.a.own
 farA:Shape 20 w.a.far
 ownB:Shape 20 w.b.own
 farB:Shape 10 w.b.far
 done:w.a.done=[]/\w.b.done=[]
 over:w.a.over=[]/\w.b.over=[]
 room:w.a.out.room=120/\w.b.out.room=120
 told:∀ q∈w.b.own,q.id=1->q.told=true->∃ f∈w.a.far,f.id=1
 want:∀ s∈w.a.subs,s.road∈wants p (hasTwo w.a.own) (hasTwo w.a.far)
 baseA:w.a.out.base<=nextOf w.b.inp
 baseB:w.b.out.base<=nextOf w.a.inp
 hth:∀ h∈w.b.halfs,1000<=h.theirs
structure EvoA (l m:List SubD):Prop where
 len:l.length<=m.length
 at_:∀ (i:Nat) (h:i < l.length) (h':i < m.length),m[i].road=l[i].road/\m[i].mine=l[i].mine/\m[i].take=l[i].take/\(l[i].state=4->m[i].state=4/\m[i].theirs=l[i].theirs)
theorem EvoA.refl (l:List SubD):EvoA l l:=⟨Sn _,fun i h h'=>⟨rfl,rfl,rfl,fun h=>⟨h,rfl⟩⟩⟩
theorem EvoA.app (l r:List SubD):EvoA l (l++r):=⟨zP,fun i h h'=>by rw [List.getElem_append_left h];exact⟨rfl,rfl,rfl,fun h=>⟨h,rfl⟩⟩⟩
theorem EvoA.set {l:List SubD} {n:Nat} {s:SubD} (hn:n < l.length) (h1:s.road=l[n].road) (h2:s.mine=l[n].mine) (h3:s.take=l[n].take) (h4:¬ l[n].state=4):EvoA l (l.set n s):=by
 refine⟨zP,fun i h h'=>?_⟩
 rw [RG]
 split
 ·rename_i e;subst e;exact⟨h1,h2,h3,fun h=>absurd h h4⟩
 exact⟨rfl,rfl,rfl,fun h=>⟨h,rfl⟩⟩
theorem EvoA.tick (l:List SubD):EvoA l (l.map bI):=⟨zP,fun i h h'=>by
 rw [Sw]
 have k:=dZ l[i]
 exact⟨k.road,k.mine,k.take,fun h4=>⟨by rw [ut h4];exact h4,k.theirs⟩⟩⟩
theorem EvoA.trans {l m n:List SubD} (h:EvoA l m) (g:EvoA m n):EvoA l n:=by
 refine⟨Sa h.len g.len,fun i hi hi'=>?_⟩
 have hm:i < m.length:=by have:=h.len;omega
 obtain⟨a1,a2,a3,a4⟩:=h.at_ i hi hm
 obtain⟨b1,b2,b3,b4⟩:=g.at_ i hm hi'
 refine⟨b1.trans a1,b2.trans a2,b3.trans a3,fun hs=>?_⟩
 obtain⟨c1,c2⟩:=a4 hs
 obtain⟨d1,d2⟩:=b4 c1
 exact⟨d1,d2.trans c2⟩
theorem CL.mono {w w':WorldD} {x:LetterD} (L:CL w x) (P:w.a.subs.Pairwise Later) (E:Le w w') (ea:EvoA w.a.subs w'.a.subs) (fa:∀ f∈w.a.far,∃ f'∈w'.a.far,f'.id=f.id) (na:nextOf w.a.inp<=nextOf w'.a.inp) (nb:nextOf w.b.inp<=nextOf w'.b.inp):CL w' x:=by
 refine⟨L.kind,L.to,L.to2,L.to1,L.k4,fun k=>?_,fun k h1 h2=>?_,fun k h1=>?_,fun k h1=>?_⟩
 ·obtain⟨j,hj,a1,a2,a3,a4,a5,a6⟩:=L.k5 k
  have hj':j < w'.a.subs.length:=by have:=ea.len;omega
  obtain⟨b1,b2,_,_⟩:=ea.at_ j hj hj'
  refine⟨j,hj',by rw [b2];exact a1,by rw [b2,E.ka,E.kb];exact a2,b1.trans a3,Sq a4 E.db,fun i hi hr=>?_,fun h hh hr=>?_⟩
  ·have hil:i < w.a.subs.length:=zO
   obtain⟨c1,c2,_,c3⟩:=ea.at_ i hil zO
   rw [c1] at hr
   have h4:=(Later.at P hil hj hi (by rw [hr,a3])).1
   rw [(c3 h4).2];exact a5 i hi hr
  rcases E.hb h hh with g|⟨q,q1,q2,_,_,q5⟩
  ·omega
  rw [<-q2];exact a6 q q1 (by rw [q5];exact hr)
 ·obtain⟨f,f1,f2⟩:=L.k9 k h1 h2
  obtain⟨f',g1,g2⟩:=fa f f1
  exact⟨f',g1,g2.trans f2⟩
 ·exact RV (L.k12a k h1) nb
 exact RV (L.k12b k h1) na
theorem GW {l:List SubD} (h:l.Pairwise fun s t=>¬ s.take=t.take) {i j:Nat} (hi:i < l.length) (hj:j < l.length) (e:l[i].take=l[j].take):i=j:=by
 rw [RA] at h
 rcases R4 i j with g|g|g
 ·exact absurd e (h i j hi hj g)
 ·exact g
 exact absurd e.symm (h j i hj hi g)
theorem Dm {l:List HalfD} (h:l.Pairwise fun a b=>¬ a.road=b.road) {s t:HalfD} (hs:s∈l) (ht:t∈l) (e:s.road=t.road):s=t:=by
 obtain⟨i,hi,rfl⟩:=RC hs
 obtain⟨j,hj,rfl⟩:=RC ht
 rw [RA] at h
 rcases R4 i j with g|g|g
 ·exact absurd e (h i j hi hj g)
 ·subst g;rfl
 exact absurd e.symm (h j i hj hi g)
theorem Dn (p:PiecesD) (n:Int) (t:List UInt8):(putPiece p n t).read=p.read/\∃ r,(putPiece p n t).ready=p.ready++r:=by
 unfold putPiece mw lU oe
 repeat' split
 all_goals first
  |exact⟨rfl,[],(RQ _).symm⟩
  |exact⟨rfl,_,rfl⟩
theorem Do {p:PiecesD} {n:Int} {t:List UInt8} (hs:SmallP p) (ok:piecesOk p=true):nextOf p<=nextOf (putPiece p n t):=by
 rcases my p n t with e|e
 ·rw [e];exact Rx _
 rw [(cI ok hs).next,(cI e (mM hs)).next]
 obtain⟨h1,r,h2⟩:=Dn p n t
 rw [h1,h2,RD]
 omega
theorem zm {o:OutD} {n m:Int} (h:o.base<=m) (hn:n<=m):(came o n).base<=m:=by
 unfold came;split
 ·exact hn
 exact h
theorem zn {o:OutD} {n:Int}:(came o n).room=o.room:=by unfold came;split<;>rfl
theorem mV {l m:List AddrD} (h:∀ f∈l,∃ f'∈m,f'.id=f.id) (k:hasTwo l=true):hasTwo m=true:=by
 simp only [hasTwo,R8,beq_iff_eq] at k⊢
 obtain⟨f,f1,f2⟩:=k
 obtain⟨g,g1,g2⟩:=h f f1
 exact⟨g,g1,g2.trans f2⟩
theorem Nc {l:List AddrD} {i:Nat} (hi:i < l.length) {a:AddrD} (h:a.id=l[i].id):∀ f∈l,∃ f'∈l.set i a,f'.id=f.id:=by
 intro f hf
 obtain⟨j,hj,rfl⟩:=RC hf
 by_cases e:i=j
 ·subst e;exact⟨a,R0 hi a,h⟩
 refine⟨l[j],R7.2 ⟨j,by rw [RF];exact hj,?_⟩,rfl⟩
 rw [RG,if_neg e]
theorem FE {l:List HalfD} {r:RoadD}:bU l r < 0↔∀ h∈l,¬ h.road=r:=by
 rw [bU,sw]
 constructor
 ·intro h q hq e
  have:=h q hq
  rw [<-SG,dW] at this
  exact this e
 intro h q hq
 rw [<-SG,dW]
 exact h q hq
theorem FF {l:List HalfD} {h:HalfD} (H:HaOk l) (hh:HaE h) (hl:¬ (bU l h.road < 0/\4<=l.length)):eW (cS l h)=true:=by
 rw [mS,cS]
 split
 ·rename_i h0
  obtain⟨n,e,hn,hr⟩:=lE h0
  rw [e,Ry]
  refine H.pt zP fun i h1 h2=>?_
  rw [RG]
  split
  ·rename_i q;subst q;exact⟨hh,hr.symm⟩
  exact⟨H.el _ (Rv h2),rfl⟩
 rename_i h0
 have hno:=FE.1 (by omega:bU l h.road < 0)
 refine⟨by rw [RD,RJ];have:=H.len;omega,fun k hk=>?_,?_⟩
 ·rcases Rz.1 hk with hk|hk
  ·exact H.el k hk
  rw [Rw.1 hk];exact hh
 rw [RP]
 exact⟨H.pw,RL ..,fun a ha b hb=>by rw [Rw.1 hb];exact hno a ha⟩
theorem A_ (l:List HalfD) (h:HalfD):h∈cS l h:=by
 rw [cS];split
 ·rename_i h0
  obtain⟨n,e,hn,_⟩:=lE h0
  rw [e,Ry]
  exact R0 hn h
 simp
theorem FG {l:List HalfD} {h k:HalfD} (hk:k∈(bF l h).1):k=h\/k∈l:=by
 rw [bF] at hk;split at hk
 ·dsimp only at hk
  rw [cS] at hk;split at hk
  ·rcases RB hk with hk|hk
   ·exact .inr hk
   exact .inl hk
  rcases Rz.1 hk with hk|hk
  ·exact .inr hk
  exact .inl (Rw.1 hk)
 exact .inr hk
theorem IK {n:Int} (h:1000<=n):¬ Loose [] n:=by
 rintro (h1|h1)
 ·omega
 simp at h1
structure CStep (p:PolicyD) (w w':WorldD) (l:List LetterD):Prop where
 e:CE p w'
 ea:EvoA w.a.subs w'.a.subs
 fa:∀ f∈w.a.far,∃ f'∈w'.a.far,f'.id=f.id
 na:nextOf w.a.inp<=nextOf w'.a.inp
 nb:nextOf w.b.inp<=nextOf w'.b.inp
 ls:∀ y∈l,CL w' y
theorem xr {w:WorldD} {y:LetterD} (k:y.kind=6\/y.kind=7\/y.kind=8\/y.kind=11) (h0:¬ sideAt y.to=0) (h2:y.kind=6->sideAt y.to=2) (h1:y.kind=7->sideAt y.to=1):CL w y:=
 ⟨zO,h0,fun h=>h2 zO,fun h=>h1 zO,fun h=>by omega,fun h=>by omega,fun h=>by omega,fun h=>by omega,fun h=>by omega⟩
theorem ku {w:WorldD} {y:LetterD} (h:CL w y):∀ z∈[y],CL w z:=fun z hz=>by rw [Rw.1 hz];exact h
theorem mW {w:WorldD}:∀ z∈([]:List LetterD),CL w z:=fun z hz=>by simp at hz
theorem Rr:4<=(5:Int)/\(5:Int)<=12/\¬ (5:Int)=10:=by decide
theorem Rs:4<=(9:Int)/\(9:Int)<=12/\¬ (9:Int)=10:=by decide
theorem Qm:4<=(12:Int)/\(12:Int)<=12/\¬ (12:Int)=10:=by decide
theorem Qn {p:PolicyD} {w:WorldD} {x:LetterD} (hp:p∈pols) (C:Core w) (G:SmallP w.a.inp) (L:LetI w x) (E:CE p w) (X:CL w x) (hx:sideAt x.to=1):CStep p w (h_ w (bO w.a x).1) (bO w.a x).2:=by
 have F:=nL w.a x
 have S:=K6 C G L hx
 have kk:=X.kind
 generalize bO w.a x=r at F S⊢
 have same:∀ f∈w.a.far,∃ f'∈w.a.far,f'.id=f.id:=fun f hf=>⟨f,hf,rfl⟩
 have side:∀ {n:Nat} (hn:n < w.a.subs.length),sideAt w.a.subs[n].road.far=2:=fun hn=>(C.sa _ (Rv hn)).far
 cases F with
 |stay=>exact⟨E,EvoA.refl _,same,Rx _,Rx _,mW⟩
 |other r k=>omega
 |join1 k=>have:=X.to2 (.inl k);omega
 |join2 k=>have:=X.to2 (.inl k);omega
 |done1 k=>have:=X.to2 (.inr k);omega
 |done2 k=>have:=X.to2 (.inr k);omega
 |back k n hn h1 hr ht=>
  obtain⟨j,hj,a1,a2,a3,a4,a5,a6⟩:=X.k5 k
  have em:w.a.subs[n].mine=w.a.subs[j].mine:=congrArg TagD.b (ht.symm.trans a2)
  have hm:=Rv hn
  have ask:=(C.sa _ hm).ask (.inl h1)
  have e1:w.a.subs[n]=w.a.subs[j]:=xo C hm (Rv hj) ask em
  have enj:n=j:=GW C.sad hn hj (by rw [e1])
  subst enj
  have hg:∀ t∈w.b.subs,¬ t.give=w.a.subs[n].take:=fun t ht' hc=>by
   obtain⟨s,s1,s2,s3,s4,s5⟩:=(C.sb t ht').like
   have:=kL C.sad s1 hm (s4.trans hc)
   rw [this] at s2;exact s2 h1
  have K:=E.cs.back hn h1 (x:=x) (fun i hi hr'=>a5 i hi (hr'.trans hr)) (fun h hh hr'=>a6 h hh (by rw [hr',hr])) hg
  refine⟨⟨K,E.nums,E.pol,E.ownA,E.farA,E.ownB,E.farB,E.done,E.over,E.room,E.told,fun s hs=>?_,E.baseA,E.baseB,E.hth⟩,EvoA.set hn rfl rfl rfl zO,same,Rx _,Rx _,ku ?_⟩
  ·rcases RB hs with hs|rfl
   ·exact E.want s hs
   exact E.want w.a.subs[n] hm
  have sd:=side hn
  exact xr (.inl rfl) (by show ¬ sideAt w.a.subs[n].road.far=0;omega) (fun _=>sd) (fun h=>by cases h)
 |ack k n hn h2 hr ht=>
  have hm:=Rv hn
  refine⟨⟨E.cs.ack hn h2,E.nums,E.pol,E.ownA,E.farA,E.ownB,E.farB,E.done,E.over,E.room,E.told,fun s hs=>?_,E.baseA,E.baseB,E.hth⟩,EvoA.set hn rfl rfl rfl zO,same,Rx _,Rx _,mW⟩
  rcases RB hs with hs|rfl
  ·exact E.want s hs
  exact E.want w.a.subs[n] hm
 |addr k n hn h3 hr hs ht hp1=>
  obtain⟨d1,d2⟩:=L.a8 hx k x.id x.addr (by rw [ht,C.pa])
  have hf:FC 20 (ic x):=by
   rcases d2 with⟨q,q1,q2,q3⟩|d2
   ·have:=E.ownB.fits q1
    simp only [FC,ic] at this⊢
    omega
   rw [E.done.2] at d2;simp at d2
  obtain⟨p1,p2,p3⟩:=E.farA.put hf
  refine⟨⟨E.cs,E.nums,E.pol,E.ownA,p1,E.ownB,E.farB,E.done,E.over,E.room,fun q hq h1 h2=>?_,fun s hs=>xq hp id (mV p3) (E.want s hs),E.baseA,E.baseB,E.hth⟩,EvoA.refl _,p3,Rx _,Rx _,ku ?_⟩
  ·obtain⟨f,f1,f2⟩:=E.told q hq h1 h2
   obtain⟨f',g1,g2⟩:=p3 f f1
   exact⟨f',g1,g2.trans f2⟩
  have sd:=side hn
  rw [hr] at sd
  have sd:sideAt x.frm=2:=sd
  refine⟨Rs,by show ¬ sideAt x.frm=0;omega,fun h=>(by rcases h with h|h<;>cases h),fun h=>(by rcases h with h|h<;>cases h),fun h=>(by cases h),fun h=>(by cases h),fun _ _ h1=>⟨ic x,p2 hp1,h1⟩,fun h=>(by cases h),fun h=>(by cases h)⟩
 |echo k i hi h1 h2=>
  refine⟨⟨E.cs,E.nums,E.pol,E.ownA.set hi rfl rfl,E.farA,E.ownB,E.farB,E.done,E.over,E.room,E.told,fun s hs=>xq hp (mV (Nc hi (a:={ w.a.own[i] with told:=true }) rfl)) id (E.want s hs),E.baseA,E.baseB,E.hth⟩,EvoA.refl _,same,Rx _,Rx _,mW⟩
 |data k n hn h3 hr hs=>
  have nx:=Do (n:=x.pos) (t:=x.text) G C.oka.inp
  refine⟨⟨E.cs,E.nums,E.pol,E.ownA,E.farA,E.ownB,E.farB,E.done,E.over,E.room,E.told,E.want,E.baseA,RV E.baseB nx,E.hth⟩,EvoA.refl _,same,nx,Rx _,ku ?_⟩
  have sd:=side hn
  rw [hr] at sd
  have sd:sideAt x.frm=2:=sd
  refine⟨Qm,by show ¬ sideAt x.frm=0;omega,fun h=>(by rcases h with h|h<;>cases h),fun h=>(by rcases h with h|h<;>cases h),fun h=>(by cases h),fun h=>(by cases h),fun h=>(by cases h),fun _ h=>?_,fun _ h=>Rx _⟩
  have h:sideAt x.frm=1:=h
  omega
 |came k n hn h3 hr hs=>
  have ho:=X.k12a k hx
  exact⟨⟨E.cs,E.nums,E.pol,E.ownA,E.farA,E.ownB,E.farB,E.done,E.over,⟨zn.trans E.room.1,E.room.2⟩,E.told,E.want,zm E.baseA ho,E.baseB,E.hth⟩,EvoA.refl _,same,Rx _,Rx _,mW⟩
theorem IL {w:WorldD} {x:LetterD} (C:Core w) (ok:mu w.b x=true):bF w.b.halfs (aw w.b x)=(cS w.b.halfs (aw w.b x),true):=by
 have hk:=ok
 simp only [mu,Ru,decide_eq_true_eq,df,RK,Bool.and_eq_false_iff,decide_eq_false_iff_not] at hk
 obtain⟨⟨⟨⟨⟨⟨⟨⟨⟨hk1,hk2⟩,_⟩,_⟩,_⟩,_⟩,hk6⟩,hk7⟩,hk8⟩,_⟩:=hk
 obtain⟨_,_,_,n4,n5,_⟩:=jP hk2
 have hne:HaE (aw w.b x):=by
  have n9:=C.okb.nums
  refine⟨nE hk2,n4,n9.2.2.1,n5,?_,?_⟩
  ·simp only [aw,N9];omega
  have:=n9.2.2.2.1
  simp only [aw,N9] at this⊢;omega
 refine yK (FF C.okb.halfs hne ?_)
 rintro⟨g1,g2⟩
 have g1:bU w.b.halfs (roadOf x) < 0:=g1
 rcases hk6 with g|g<;>omega
theorem Qo {p:PolicyD} {w:WorldD} {x:LetterD} (hp:p∈pols) (C:Core w) (G:SmallP w.b.inp) (L:LetI w x) (E:CE p w) (X:CL w x) (hx:sideAt x.to=2):CStep p w (inB w (bO w.b x).1) (bO w.b x).2:=by
 have F:=nL w.b x
 have S:=K8 C G L hx
 have kk:=X.kind
 generalize bO w.b x=r at F S⊢
 have same:∀ f∈w.a.far,∃ f'∈w.a.far,f'.id=f.id:=fun f hf=>⟨f,hf,rfl⟩
 have side:∀ {n:Nat} (hn:n < w.b.subs.length),sideAt w.b.subs[n].road.far=1:=fun hn=>(farB C (Rv hn)).1
 have thd:∀ s∈w.a.subs,s.theirs < w.b.draw:=fun s hs=>(C.sa s hs).th.1
 have asks:x.kind=4->∃ (j:Nat) (hj:j < w.a.subs.length),1000<=w.a.subs[j].mine/\x.nonce=w.a.subs[j].mine/\x.give=w.a.subs[j].take/\roadOf x=bk w.a.subs[j].road:=fun k=>by
  rcases L.b4 hx k with g|⟨s,s1,s2,s3,s4,s5⟩
  ·rw [E.nums] at g;exact absurd g (IK (X.k4 k))
  obtain⟨j,hj,rfl⟩:=RC s1
  exact⟨j,hj,s2,s3,s4,s5⟩
 cases F with
 |stay=>exact⟨E,EvoA.refl _,same,Rx _,Rx _,mW⟩
 |other r k=>omega
 |back k=>have:=X.to1 (.inl k);omega
 |ack k=>have:=X.to1 (.inr k);omega
 |join1 k ok n hn hr h1 h2=>
  obtain⟨j,hj,s2,s3,s4,s5⟩:=asks k
  have hh:=Rv hn
  have H:=C.hb _ hh
  have m4:=H.m4
  have hold:∀ q∈w.b.halfs.set n { w.b.halfs[n] with till:=w.b.now+6 },∃ h∈w.b.halfs,h.mine=q.mine/\h.road=q.road/\h.theirs=q.theirs:=fun q hq=>by
   rcases RB hq with hq|rfl
   ·exact⟨q,hq,rfl,rfl,rfl⟩
   exact⟨_,hh,rfl,rfl,rfl⟩
  refine⟨⟨E.cs.half thd fun q hq=>.inr (by obtain⟨g,g1,g2,g3,_⟩:=hold q hq;exact⟨g,g1,g2,g3⟩),E.nums,E.pol,E.ownA,E.farA,E.ownB,E.farB,E.done,E.over,E.room,E.told,E.want,E.baseA,E.baseB,fun q hq=>(by obtain⟨g,g1,_,_,g4⟩:=hold q hq;rw [<-g4];exact E.hth g g1)⟩,EvoA.refl _,same,Rx _,Rx _,ku ?_⟩
  have sd:sideAt (roadOf x).far=1:=by rw [s5];exact (C.sa _ (Rv hj)).own
  refine⟨Rr,by show ¬ sideAt (roadOf x).far=0;omega,fun h=>(by rcases h with h|h<;>cases h),fun _=>sd,fun h=>(by cases h),fun _=>⟨j,hj,s2,?_,?_,?_,fun i hi e=>?_,fun q hq e=>?_⟩,fun h=>(by cases h),fun h=>(by cases h),fun h=>(by cases h)⟩
  ·show (⟨1,w.b.key,w.b.peer,w.b.halfs[n].mine,w.b.halfs[n].theirs⟩:TagD)=⟨1,w.b.key,w.a.key,w.b.halfs[n].mine,w.a.subs[j].mine⟩
   rw [C.pb,h1,s3]
  ·show w.a.subs[j].road=bk (roadOf x)
   rw [s5,zi]
  ·show w.b.halfs[n].mine < w.b.draw
   omega
  ·show w.a.subs[i].theirs < w.b.halfs[n].mine
   have e':w.a.subs[i].road=bk (roadOf x):=e
   rw [s5,zi] at e'
   have hil:i < w.a.subs.length:=zO
   have l4:=(Later.at E.cs.pw hil hj hi e').1
   have le:=E.cs.hl _ (Rv hil) zO _ hh (by rw [hr,s5,e'])
   have ne:¬ w.b.halfs[n].mine=w.a.subs[i].theirs:=fun hc=>by
    have:=((C.sa _ (Rv hil)).th.2 _ hh hc).1
    rw [h1,s3] at this
    have e2:=xo C (Rv hj) (Rv hil) s2 this
    have:=GW C.sad hj hil (by rw [e2])
    omega
   omega
  show w.b.halfs[n].mine<=q.mine
  obtain⟨h,q1,q2,q3,_⟩:=hold q hq
  have e':q.road=bk (bk (roadOf x)):=e
  rw [zi] at e'
  have:=Dm C.okb.halfs.pw q1 hh (by rw [q3,e',hr])
  rw [<-q2,this]
  exact Rx _
 |join2 k ok no=>
  obtain⟨j,hj,s2,s3,s4,s5⟩:=asks k
  have hput:=IL C ok
  have S':=S.c.okb.halfs.pw
  rw [hput] at S'⊢
  have hin:∀ q∈cS w.b.halfs (aw w.b x),q=aw w.b x\/q∈w.b.halfs:=fun q hq=>FG (h:=aw w.b x) (by rw [hput];exact hq)
  refine⟨⟨E.cs.half thd fun q hq=>?_,E.nums,E.pol,E.ownA,E.farA,E.ownB,E.farB,E.done,E.over,E.room,E.told,E.want,E.baseA,E.baseB,fun q hq=>(by rcases hin q hq with rfl|hq;exact X.k4 k;exact E.hth q hq)⟩,EvoA.refl _,same,Rx _,Rx _,ku ?_⟩
  ·rcases hin q hq with rfl|hq
   ·exact .inl (Rx _)
   exact .inr ⟨q,hq,rfl,rfl⟩
  have sd:sideAt (roadOf x).far=1:=by rw [s5];exact (C.sa _ (Rv hj)).own
  refine⟨Rr,by show ¬ sideAt (roadOf x).far=0;omega,fun h=>(by rcases h with h|h<;>cases h),fun _=>sd,fun h=>(by cases h),fun _=>⟨j,hj,s2,?_,?_,?_,fun i hi e=>?_,fun q hq e=>?_⟩,fun h=>(by cases h),fun h=>(by cases h),fun h=>(by cases h)⟩
  ·show (⟨1,w.b.key,w.b.peer,w.b.draw,x.nonce⟩:TagD)=⟨1,w.b.key,w.a.key,w.b.draw,w.a.subs[j].mine⟩
   rw [C.pb,s3]
  ·show w.a.subs[j].road=bk (roadOf x)
   rw [s5,zi]
  ·show w.b.draw < w.b.draw+4
   omega
  ·exact thd _ (Rv zO)
  show w.b.draw<=q.mine
  have e':q.road=bk (bk (roadOf x)):=e
  rw [zi] at e'
  have:=Dm S' hq (A_ _ _) e'
  rw [this]
  exact Rx _
 |done1 k i hi hr h8 ht m hm=>
  have hh:=Rv hi
  obtain⟨s,s1,s2,s3,s4,s5,s6⟩:=L.b6 hx k w.b.halfs[i].theirs w.b.halfs[i].mine (by rw [ht,C.pb])
  have hm':=hm
  rw [<-hr] at hm'
  have K:=CS.done C E.cs hh E.nums s s1 s2 s4.symm s5.symm (by rw [hr,s6]) s3 hm'
  rw [hr] at K
  refine⟨⟨K,E.nums,E.pol,E.ownA,E.farA,E.ownB,E.farB,E.done,E.over,E.room,E.told,E.want,E.baseA,E.baseB,fun q hq=>E.hth q (mQ.1 q hq)⟩,EvoA.refl _,same,Rx _,Rx _,ku ?_⟩
  have sd:sideAt (roadOf x).far=1:=by rw [s6];exact (C.sa _ s1).own
  exact xr (.inr (.inl rfl)) (by show ¬ sideAt (roadOf x).far=0;omega) (fun h=>by cases h) (fun _=>sd)
 |done2 k n hn h3 hr ht=>
  have sd:=side hn
  rw [hr] at sd
  exact⟨E,EvoA.refl _,same,Rx _,Rx _,ku (xr (.inr (.inl rfl)) (by show ¬ sideAt (roadOf x).far=0;omega) (fun h=>by cases h) (fun _=>sd))⟩
 |addr k n hn h3 hr hs ht hp1=>
  obtain⟨d1,d2⟩:=L.b8 hx k x.id x.addr (by rw [ht,C.pb])
  have hf:FC 10 (ic x):=by
   rcases d2 with⟨q,q1,q2,q3⟩|d2
   ·have:=E.ownA.fits q1
    simp only [FC,ic] at this⊢
    omega
   rw [E.done.1] at d2;simp at d2
  obtain⟨p1,p2,p3⟩:=E.farB.put hf
  refine⟨⟨E.cs,E.nums,E.pol,E.ownA,E.farA,E.ownB,p1,E.done,E.over,E.room,E.told,E.want,E.baseA,E.baseB,E.hth⟩,EvoA.refl _,same,Rx _,Rx _,ku ?_⟩
  have sd:=side hn
  rw [hr] at sd
  have sd:sideAt x.frm=1:=sd
  refine⟨Rs,by show ¬ sideAt x.frm=0;omega,fun h=>(by rcases h with h|h<;>cases h),fun h=>(by rcases h with h|h<;>cases h),fun h=>(by cases h),fun h=>(by cases h),fun _ h=>?_,fun h=>(by cases h),fun h=>(by cases h)⟩
  have h:sideAt x.frm=2:=h
  omega
 |echo k i hi h1 h2=>
  refine⟨⟨E.cs,E.nums,E.pol,E.ownA,E.farA,E.ownB.set hi rfl rfl,E.farB,E.done,E.over,E.room,fun q hq g1 g2=>?_,E.want,E.baseA,E.baseB,E.hth⟩,EvoA.refl _,same,Rx _,Rx _,mW⟩
  rcases RB hq with hq|rfl
  ·exact E.told q hq g1 g2
  exact X.k9 k hx (h1.symm.trans g1)
 |data k n hn h3 hr hs=>
  have nx:=Do (n:=x.pos) (t:=x.text) G C.okb.inp
  refine⟨⟨E.cs,E.nums,E.pol,E.ownA,E.farA,E.ownB,E.farB,E.done,E.over,E.room,E.told,E.want,RV E.baseA nx,E.baseB,E.hth⟩,EvoA.refl _,same,Rx _,nx,ku ?_⟩
  have sd:=side hn
  rw [hr] at sd
  have sd:sideAt x.frm=1:=sd
  refine⟨Qm,by show ¬ sideAt x.frm=0;omega,fun h=>(by rcases h with h|h<;>cases h),fun h=>(by rcases h with h|h<;>cases h),fun h=>(by cases h),fun h=>(by cases h),fun h=>(by cases h),fun _ h=>Rx _,fun _ h=>?_⟩
  have h:sideAt x.frm=2:=h
  omega
 |came k n hn h3 hr hs=>
  have ho:=X.k12b k hx
  exact⟨⟨E.cs,E.nums,E.pol,E.ownA,E.farA,E.ownB,E.farB,E.done,E.over,⟨E.room.1,zn.trans E.room.2⟩,E.told,E.want,E.baseA,zm E.baseB ho,E.hth⟩,EvoA.refl _,same,Rx _,Rx _,mW⟩
def Qp (r:RoadD) (x:LetterD):Prop:=x.frm=r.own/\x.to=r.far/\x.port=r.port
theorem Lc {l:List SubD} {n:Nat} (h:n∈fw l):n∈mo l:=by
 rw [fw] at h;split at h
 ·exact h
 exact (RU.1 h).1
theorem xt {e:EndD} (h:0<=cz e):∃ s∈e.subs,s.state=3/\bD e.subs (cz e).toNat=s:=by
 rw [cz] at h⊢;split at h
 ·rename_i hc
  have hz:e.pick.toNat % (fw e.subs).length < (fw e.subs).length:=Nat.mod_lt _ zO
  rw [if_pos hc,Ry,R9,Sb hz,Option.getD_some]
  obtain⟨hn,h3⟩:=pO (Lc (Rv hz))
  exact⟨_,Rv hn,h3,cd hn⟩
 omega
def PA (w:WorldD) (x:LetterD):Prop:=Slice w.wroteA x.pos x.text/\∃ s∈w.a.subs,¬ s.state=1/\Qp s.road x/\x.sgn=s.give/\∃ t∈w.b.subs,t.take=x.sgn/\t.give=s.take
def PB (w:WorldD) (x:LetterD):Prop:=Slice w.wroteB x.pos x.text/\∃ t∈w.b.subs,Qp t.road x/\x.sgn=t.give
def PD (w:WorldD) (x:LetterD):Prop:=x.kind=11->PA w x\/PB w x
def CovI (s:Int) (l:List LetterD) (R:List UInt8) (p:PiecesD):Prop:=l.length < 150->∀ W,(∀ x∈l,x.kind=11->sideAt x.to=s->Slice W x.pos x.text)->InI W R p
structure Car (w:WorldD):Prop where
 sbd:w.b.subs.Pairwise fun s t=>¬ s.take=t.take
 ga:∀ s∈w.a.subs,GA w.b.subs s
 lb:∀ x∈w.bag,LC w x
 lp:∀ x∈w.past,LC w x
 bd:∀ x∈w.bag,x.kind=11->Loose w.nums x.sgn\/150<=w.past.length\/x∈w.past
 pd:∀ x∈w.past,PD w x
 ca:CovI 1 w.past w.readA w.a.inp
 cb:CovI 2 w.past w.readB w.b.inp
theorem LC.mono {w w':WorldD} {x:LetterD} (C:Core w) (L:LetI w x) (K:LC w x) (E:Le w w') (N:NewB w w'.b.subs):LC w' x:=by
 intro h1 h2 m h3
 rw [E.ka,E.kb] at h3
 rcases L.a5 h1 h2 m h3 with g|⟨g1,g2⟩
 ·exact .inl (g.mono E.nums)
 rcases K h1 h2 m h3 with g|⟨k1,k2⟩
 ·exact .inl (g.mono E.nums)
 refine .inr ⟨k1,fun t ht e=>?_⟩
 rcases N.nb t ht with⟨u,u1,u2,u3⟩|⟨q,q1,q2,q3,r,r1,r2,r3,r4⟩
 ·rw [u3];exact k2 u u1 (by rw [<-u2];exact e)
 have m4:=(C.hb q q1).m4
 obtain⟨p1,_,_⟩:=g2 q q1 zO
 have m2:=(C.sa r r1).mine
 omega
theorem PD.mono {w w':WorldD} {x:LetterD} (K:PD w x) (E:Le w w') (N:NewB w w'.b.subs):PD w' x:=by
 intro hk
 rcases K hk with⟨q0,s,s1,s2,s3,s4,t,t1,t2,t3⟩|⟨q0,t,t1,t2,t3⟩
 ·obtain⟨s',r1,r2⟩:=E.sa s s1
  obtain⟨p1,p2,p3⟩:=r2.rest s2
  obtain⟨u,u1,_,u2,u3⟩:=N.ev t t1
  obtain⟨v,hv⟩:=E.wa
  exact .inl ⟨by rw [hv];exact q0.app v,s',r1,p1,by rw [r2.road];exact s3,by rw [p3];exact s4,u,u1,u2.trans t2,by rw [u3,r2.take];exact t3⟩
 obtain⟨u,u1,u0,u2,u3⟩:=N.ev t t1
 obtain⟨v,hv⟩:=E.wb
 exact .inr ⟨by rw [hv];exact q0.app v,u,u1,by rw [u0];exact t2,by rw [u3];exact t3⟩
theorem Car.put {w w':WorldD} (I:Inv w) (K:Car w) (E:Le w w') (N:NewB w w'.b.subs) (hb:w'.bag=w.bag) (hp:w'.past=w.past) (ga:∀ s∈w'.a.subs,GA w'.b.subs s) (ca:CovI 1 w.past w'.readA w'.a.inp) (cb:CovI 2 w.past w'.readB w'.b.inp):Car w':=by
 refine⟨N.pw K.sbd,ga,?_,?_,?_,?_,by rw [hp];exact ca,by rw [hp];exact cb⟩
 ·rw [hb];exact fun x hx=>(K.lb x hx).mono I.c (I.bag x hx) E N
 ·rw [hp];exact fun x hx=>(K.lp x hx).mono I.c (I.past x hx) E N
 ·rw [hb,hp];exact fun x hx k=>(K.bd x hx k).imp (fun g=>g.mono E.nums) id
 rw [hp];exact fun x hx=>(K.pd x hx).mono E N
theorem CovI.more {s:Int} {l:List LetterD} {x:LetterD} {R:List UInt8} {p:PiecesD} (h:CovI s l R p):CovI s (fE l x) R p:=by
 intro hl W hW
 rw [fE] at hl hW
 split at hl
 ·rename_i h1
  rw [if_pos h1] at hW
  exact h h1 W fun y hy=>hW y (RH _ hy)
 rename_i h1
 omega
theorem IM {w:WorldD} {side:Int} {x:LetterD} (I:Inv w) (K:Car w) (P:Post w x) (hl:LC w x) (hd:PD w x):Car (br side w x):=by
 obtain⟨I',E,ea,eb⟩:=sA (side:=side) I P
 obtain⟨_,_,_,_,er,es⟩:=iy (side:=side) (w:=w) (x:=x)
 have N:NewB w (br side w x).b.subs:=by rw [eb];exact .keep (SubsKeep.refl _)
 have hp:(br side w x).past=fE w.past x:=by unfold br;split<;>rfl
 have hb:∀ y∈(br side w x).bag,y=x\/y∈w.bag:=by
  intro y hy
  unfold br at hy;split at hy
  ·exact .inr hy
  dsimp only at hy
  rw [qg] at hy;split at hy
  ·rcases Rz.1 hy with hy|hy
   ·exact .inr hy
   exact .inl (Rw.1 hy)
  exact .inr hy
 have hq:∀ y∈fE w.past x,y=x\/y∈w.past:=by
  intro y hy
  rw [fE] at hy;split at hy
  ·rcases Rz.1 hy with hy|hy
   ·exact .inr hy
   exact .inl (Rw.1 hy)
  exact .inr hy
 have hin:x∈fE w.past x\/150<=(fE w.past x).length:=by
  rw [fE];split
  ·exact .inl zP
  exact .inr zO
 have hold:∀ y∈w.past,y∈fE w.past x:=fun y hy=>by
  rw [fE];split
  ·exact RH _ hy
  exact hy
 have hlen:w.past.length<=(fE w.past x).length:=by
  rw [fE];split
  ·simp
  exact Sn _
 refine⟨by rw [eb];exact K.sbd,by rw [ea,eb];exact K.ga,fun y hy=>?_,fun y hy=>?_,fun y hy k=>?_,fun y hy=>?_,by rw [hp,er,ea];exact K.ca.more,by rw [hp,es,eb];exact K.cb.more⟩
 ·rcases hb y hy with rfl|hy
  ·exact hl.mono I.c P.let E N
  exact (K.lb y hy).mono I.c (I.bag y hy) E N
 ·rw [hp] at hy
  rcases hq y hy with rfl|hy
  ·exact hl.mono I.c P.let E N
  exact (K.lp y hy).mono I.c (I.past y hy) E N
 ·rw [hp]
  rcases hb y hy with rfl|hy
  ·exact .inr hin.symm
  rcases K.bd y hy k with g|g|g
  ·exact .inl (g.mono E.nums)
  ·exact .inr (.inl zO)
  exact .inr (.inr (hold y g))
 rw [hp] at hy
 rcases hq y hy with rfl|hy
 ·exact hd.mono E N
 exact (K.pd y hy).mono E N
theorem zo {side:Int}:∀ {l:List LetterD} {w:WorldD},Inv w->Car w->(∀ x∈l,Post w x)->(∀ x∈l,LC w x/\PD w x)->Car (az side w l)
 |[],w,I,K,_,_=>K
 |x::l,w,I,K,P,Q=>by
  obtain⟨I',E,ea,eb⟩:=sA (side:=side) I (P x zP)
  have N:NewB w (br side w x).b.subs:=by rw [eb];exact .keep (SubsKeep.refl _)
  exact zo (l:=l) I' (IM I K (P x zP) (Q x zP).1 (Q x zP).2) (fun y hy=>(P y (by simp [hy])).mono E ea eb) fun y hy=>
   ⟨(Q y (by simp [hy])).1.mono I.c (P y (by simp [hy])).let E N,(Q y (by simp [hy])).2.mono E N⟩
theorem Car.step {w w':WorldD} {l:List LetterD} {side:Int} (I:Inv w) (S:Step w w' l) (hb:w'.bag=w.bag) (hp:w'.past=w.past) (K':Car w') (Q:∀ x∈l,LC w' x/\PD w' x):Car (az side w' l):=
 zo ⟨S.c,fun x hx=>(I.bag x (hb▸hx)).mono S.le,fun x hx=>(I.past x (hp▸hx)).mono S.le⟩ K' S.post Q
theorem Car.bag {w:WorldD} {l:List LetterD} (K:Car w) (h:∀ x∈l,LC w x) (g:∀ x∈l,x.kind=11->Loose w.nums x.sgn\/150<=w.past.length\/x∈w.past):Car { w with bag:=l }:=⟨K.sbd,K.ga,h,K.lp,g,K.pd,K.ca,K.cb⟩
theorem Nd {e:EndD}:∀ y∈(dv e).2,y.kind=11/\∃ s∈e.subs,y.to=s.road.far:=by
 unfold dv;split
 ·rename_i hk
  simp only [kq,Ru,decide_eq_true_eq] at hk
  obtain⟨s,s1,s2,s3⟩:=xt hk.2
  rw [s3]
  exact OM ⟨rfl,s,s1,rfl⟩
 intro y hy;simp at hy
theorem Dp:∀ {k:Nat} {e:EndD},∀ y∈(bZ k e).2,y.kind=11/\∃ s∈e.subs,y.to=s.road.far
 |0,e=>fun y hy=>by simp [bZ] at hy
 |k+1,e=>fun y hy=>by
  rcases Rz.1 hy with hy|hy
  ·exact Nd y hy
  have:=Dp y hy
  rw [zb] at this
  exact this
structure SameE (e e':EndD):Prop where
 subs:e'.subs=e.subs
 own:e'.own=e.own
 far:e'.far=e.far
 pol:e'.policy=e.policy
 done:e'.done=e.done
 over:e'.over=e.over
 halfs:e'.halfs=e.halfs
 inp:e'.inp=e.inp
 base:e'.out.base=e.out.base
 room:e'.out.room=e.out.room
theorem SameE.refl (e:EndD):SameE e e:=⟨rfl,rfl,rfl,rfl,rfl,rfl,rfl,rfl,rfl,rfl⟩
theorem SameE.trans {a b c:EndD} (h:SameE a b) (g:SameE b c):SameE a c:=
 ⟨g.subs.trans h.subs,g.own.trans h.own,g.far.trans h.far,g.pol.trans h.pol,g.done.trans h.done,g.over.trans h.over,g.halfs.trans h.halfs,g.inp.trans h.inp,g.base.trans h.base,g.room.trans h.room⟩
theorem xu (o:OutD):(iJ o).base=o.base/\(iJ o).room=o.room:=by unfold iJ;split<;>exact⟨rfl,rfl⟩
theorem uu (o:OutD):(jL o).base=o.base/\(jL o).room=o.room:=by unfold jL;split<;>exact⟨rfl,rfl⟩
theorem zp (o:OutD) (t:List UInt8):(dh o t).1.base=o.base/\(dh o t).1.room=o.room:=by unfold dh;split<;>exact⟨rfl,rfl⟩
theorem IN {e:EndD}:SameE e (dv e).1:=by
 unfold dv;split
 ·exact⟨rfl,rfl,rfl,rfl,rfl,rfl,rfl,rfl,(xu _).1,(xu _).2⟩
 exact SameE.refl e
theorem jR:∀ {k:Nat} {e:EndD},SameE e (bZ k e).1
 |0,e=>SameE.refl e
 |k+1,e=>IN.trans jR
theorem jS {e:EndD} {t:List UInt8}:SameE e (write e t).1:=by
 unfold write;split
 ·exact⟨rfl,rfl,rfl,rfl,rfl,rfl,rfl,rfl,(zp _ _).1,(zp _ _).2⟩
 exact SameE.refl e
theorem CE.endA {p:PolicyD} {w w':WorldD} (E:CE p w) (S:SameE w.a w'.a) (hb:w'.b=w.b) (hn:w'.nums=w.nums):CE p w':=by
 refine⟨?_,?_,?_,?_,?_,?_,?_,?_,?_,?_,?_,?_,?_,?_,?_⟩
 ·rw [S.subs,hb];exact E.cs
 ·rw [hn];exact E.nums
 ·rw [S.pol];exact E.pol
 ·rw [S.own];exact E.ownA
 ·rw [S.far];exact E.farA
 ·rw [hb];exact E.ownB
 ·rw [hb];exact E.farB
 ·rw [hb,S.done];exact E.done
 ·rw [hb,S.over];exact E.over
 ·rw [hb,S.room];exact E.room
 ·rw [hb,S.far];exact E.told
 ·rw [S.subs,S.own,S.far];exact E.want
 ·rw [S.base,hb];exact E.baseA
 ·rw [hb,S.inp];exact E.baseB
 rw [hb];exact E.hth
theorem CE.endB {p:PolicyD} {w w':WorldD} (E:CE p w) (S:SameE w.b w'.b) (ha:w'.a=w.a) (hn:w'.nums=w.nums):CE p w':=by
 refine⟨?_,?_,?_,?_,?_,?_,?_,?_,?_,?_,?_,?_,?_,?_,?_⟩
 ·rw [S.subs,S.halfs,ha];exact E.cs
 ·rw [hn];exact E.nums
 ·rw [ha];exact E.pol
 ·rw [ha];exact E.ownA
 ·rw [ha];exact E.farA
 ·rw [S.own];exact E.ownB
 ·rw [S.far];exact E.farB
 ·rw [ha,S.done];exact E.done
 ·rw [ha,S.over];exact E.over
 ·rw [ha,S.room];exact E.room
 ·rw [ha,S.own];exact E.told
 ·rw [ha];exact E.want
 ·rw [ha,S.inp];exact E.baseA
 ·rw [ha,S.base];exact E.baseB
 rw [S.halfs];exact E.hth
theorem CE.same {p:PolicyD} {w w':WorldD} (E:CE p w) (ha:w'.a=w.a) (hb:w'.b=w.b) (hn:w'.nums=w.nums):CE p w':=E.endA (by rw [ha];exact SameE.refl _) hb hn
theorem CL.same {w w':WorldD} {x:LetterD} (L:CL w x) (ha:w'.a=w.a) (hb:w'.b=w.b):CL w' x:=by
 cases w;cases w'
 dsimp only at ha hb
 subst ha;subst hb
 exact⟨L.kind,L.to,L.to2,L.to1,L.k4,L.k5,L.k9,L.k12a,L.k12b⟩
theorem Rj {w:WorldD} {y:LetterD} (k:y.kind=4) (h2:sideAt y.to=2) (hn:1000<=y.nonce):CL w y:=
 ⟨zO,zO,fun _=>h2,fun h=>by omega,fun _=>hn,fun h=>by omega,fun h=>by omega,fun h=>by omega,fun h=>by omega⟩
def LG (y:LetterD):Prop:=(y.kind=6\/y.kind=8\/y.kind=11\/y.kind=4/\1000<=y.nonce)/\¬ sideAt y.to=0/\(y.kind=4\/y.kind=6->sideAt y.to=2)
theorem LG.cl {w:WorldD} {y:LetterD} (h:LG y):CL w y:=by
 obtain⟨h1,h2,h3⟩:=h
 exact⟨zO,h2,h3,fun h=>by omega,fun h=>by omega,fun h=>by omega,fun h=>by omega,fun h=>by omega,fun h=>by omega⟩
theorem qT {e:EndD} {k:Nat} (h:∀ s∈e.subs,¬ sideAt s.road.far=0):∀ y∈(bZ k e).2,LG y:=by
 intro y hy
 obtain⟨h1,s,s1,s2⟩:=Dp y hy
 exact⟨.inr (.inr (.inl h1)),by rw [s2];exact h s s1,fun h=>by omega⟩
theorem Dq {e:EndD} (h:∀ s∈e.subs,¬ sideAt s.road.far=0):∀ y∈ce e,LG y:=by
 unfold ce;split
 ·rename_i hk
  simp only [CA,Ru,RK,decide_eq_false_iff_not] at hk
  intro y hy
  obtain⟨q,_,rfl⟩:=RO.1 hy
  exact⟨.inr (.inl rfl),h _ (oZ (nK hk.2)),fun h=>by rcases h with h|h<;>cases h⟩
 intro y hy;simp at hy
theorem Ld {w:WorldD} (C:Core w) {s:SubD} (hs:s∈w.a.subs):∀ y∈dO w.a s,LG y:=by
 intro y hy
 have S:=C.sa s hs
 have h2:sideAt s.road.far=2:=S.far
 rw [dO] at hy
 repeat' split at hy
 all_goals first
  |(simp at hy;done)
  |(rename_i h1;rw [Rw.1 hy];exact⟨.inr (.inr (.inr ⟨rfl,S.ask (.inl h1)⟩)),by show ¬ sideAt s.road.far=0;omega,fun _=>h2⟩)
  |(rw [Rw.1 hy];exact⟨.inl rfl,by show ¬ sideAt s.road.far=0;omega,fun _=>h2⟩)
theorem LG.all {p:PolicyD} {w:WorldD} {l:List LetterD} (h:∀ y∈l,LG y):∀ y∈l,CL w y:=fun y hy=>(h y hy).cl
theorem NP {w:WorldD} (C:Core w):∀ s∈w.a.subs,¬ sideAt s.road.far=0:=fun s hs=>by have:=(C.sa s hs).far;omega
theorem NQ {w:WorldD} (C:Core w):∀ s∈w.b.subs,¬ sideAt s.road.far=0:=fun s hs=>by have:=(farB C hs).1;omega
theorem IP {p:PiecesD} {m:Int} (hs:SmallP p) (ok:piecesOk p=true):nextOf (bs p m).1=nextOf p:=by
 have ok':=GO (m:=m) ok hs
 rw [(cI ok hs).next,(cI ok' (wR hs)).next]
 unfold bs;split
 ·have h2:yQ p m<=p.ready.length:=by unfold yQ;exact Sx _ _
  simp only [RE]
  omega
 rfl
theorem zq {e:EndD} {m:Int} (hs:SmallP e.inp) (ok:OkE e):nextOf (bu e m).1.inp=nextOf e.inp:=by
 unfold bu;split
 ·exact IP hs ok.inp
 rfl
theorem hZ (l:List AddrD):∀ f∈l,∃ f'∈l,f'.id=f.id:=fun f hf=>⟨f,hf,rfl⟩
theorem CStep.endA {p:PolicyD} {w w':WorldD} {l:List LetterD} (E:CE p w) (S:SameE w.a w'.a) (hb:w'.b=w.b) (hn:w'.nums=w.nums) (hl:∀ y∈l,LG y):CStep p w w' l:=
 ⟨E.endA S hb hn,by rw [S.subs];exact EvoA.refl _,by rw [S.far];exact hZ _,by rw [S.inp];exact Rx _,by rw [hb];exact Rx _,fun y hy=>(hl y hy).cl⟩
theorem CStep.endB {p:PolicyD} {w w':WorldD} {l:List LetterD} (E:CE p w) (S:SameE w.b w'.b) (ha:w'.a=w.a) (hn:w'.nums=w.nums) (hl:∀ y∈l,LG y):CStep p w w' l:=
 ⟨E.endB S ha hn,by rw [ha];exact EvoA.refl _,by rw [ha];exact hZ _,by rw [ha];exact Rx _,by rw [S.inp];exact Rx _,fun y hy=>(hl y hy).cl⟩
theorem mX:∀ y∈([]:List LetterD),LG y:=fun y hy=>by simp at hy
theorem IQ {p:PolicyD} {w:WorldD} (C:Core w) (E:CE p w) {r:RoadD} {b:Bool} (hr:r∈wants p (hasTwo w.a.own) (hasTwo w.a.far)):CStep p w (h_ w (dE w.a r b).1) (dE w.a r b).2:=by
 unfold dE;split
 case isFalse=>exact CStep.endA E (SameE.refl _) rfl rfl mX
 rename_i hk
 simp only [xU,Ru,decide_eq_true_eq,df] at hk
 obtain⟨⟨⟨⟨⟨⟨⟨_,_⟩,_⟩,k4⟩,_⟩,k6⟩,k7⟩,k8⟩:=hk
 have hg:∀ t∈w.b.subs,¬ t.give=w.a.draw+2:=fun t ht hc=>by
  obtain⟨s,s1,_,_,s4,_⟩:=(C.sb t ht).like
  have:=(C.sa s s1).t4
  omega
 have K:=E.cs.ask (n:=de w.a r b) rfl (sx.1 k4) hg
 refine⟨⟨K,E.nums,E.pol,E.ownA,E.farA,E.ownB,E.farB,E.done,E.over,E.room,E.told,fun s hs=>?_,E.baseA,E.baseB,E.hth⟩,EvoA.app _ _,hZ _,Rx _,Rx _,ku ?_⟩
 ·rcases Rz.1 hs with hs|hs
  ·exact E.want s hs
  rw [Rw.1 hs];exact hr
 have d:=C.da
 simp only [i7,R8,beq_iff_eq] at k6
 obtain⟨f,f1,f2⟩:=k6
 have:=(C.fa f f1).1
 rw [f2] at this
 exact Rj rfl this (by show 1000<=w.a.draw;omega)
theorem CStep.trans {p:PolicyD} {u v w:WorldD} {l m:List LetterD} (P:u.a.subs.Pairwise Later) (h:CStep p u v l) (L:Le v w) (g:CStep p v w m):CStep p u w (l++m):=by
 refine⟨g.e,h.ea.trans g.ea,fun f hf=>?_,RV h.na g.na,RV h.nb g.nb,fun y hy=>?_⟩
 ·obtain⟨f1,a1,a2⟩:=h.fa f hf
  obtain⟨f2,b1,b2⟩:=g.fa f1 a1
  exact⟨f2,b1,b2.trans a2⟩
 rcases Rz.1 hy with hy|hy
 ·exact (h.ls y hy).mono h.e.cs.pw L g.ea g.fa g.na g.nb
 exact g.ls y hy
theorem Nf (e:EndD) (r:RoadD) (b:Bool):(dE e r b).1.own=e.own/\(dE e r b).1.far=e.far:=by unfold dE;split<;>exact⟨rfl,rfl⟩
theorem Dr {p:PolicyD} {far:List AddrD}:∀ {l:List RoadD} {w:WorldD},Core w->CE p w->(∀ r∈l,r∈wants p (hasTwo w.a.own) (hasTwo w.a.far))->CStep p w (h_ w (dm far w.a l).1) (dm far w.a l).2
 |[],w,C,E,_=>CStep.endA E (SameE.refl _) rfl rfl mX
 |r::l,w,C,E,h=>by
  have j:=IQ (b:=aZ far r.far) C E (h r (RW ..))
  have C1:=(NN C r (aZ far r.far)).c
  have o:=Nf w.a r (aZ far r.far)
  have hr:∀ q∈l,q∈wants p (hasTwo (h_ w (dE w.a r (aZ far r.far)).1).a.own) (hasTwo (h_ w (dE w.a r (aZ far r.far)).1).a.far):=fun q hq=>by
   show q∈wants p (hasTwo (dE w.a r (aZ far r.far)).1.own) (hasTwo (dE w.a r (aZ far r.far)).1.far)
   rw [o.1,o.2]
   exact h q (RY _ hq)
  have g:=Dr (far:=far) C1 j.e hr
  exact CStep.trans E.cs.pw j (Fx (far:=far) (l:=l) C1).le g
theorem IR {p:PolicyD} {w:WorldD} {a:ActD} (hp:p∈pols) (C:Core w) (G:SmallP w.a.inp) (E:CE p w) (A:CalmA a) (hs:a.side=1) (hk:a.kind<=7):CStep p w (aJ (eB w a) 1 (dq w.a a).1) (dq w.a a).2:=by
 have kk:=A.k
 unfold dq eB
 split
 ·rename_i k
  exact CStep.endA E (jS.trans jR) (by unfold e7;split<;>rfl) (by unfold e7;split<;>rfl) (qT (by rw [jS.subs];exact NP C))
 split
 ·rename_i k
  have nx:=zq (m:=a.many) G C.oka
  have hr:cL w a.side (bu (bJ w a.side) a.many).2={ w with readA:=w.readA++(bu (bJ w a.side) a.many).2 }:=by rw [cL,if_pos hs]
  rw [hr]
  have q:(bu w.a a.many).1={ w.a with inp:=(bu w.a a.many).1.inp }:=by unfold bu;split<;>rfl
  rw [q]
  refine⟨⟨E.cs,E.nums,E.pol,E.ownA,E.farA,E.ownB,E.farB,E.done,E.over,E.room,E.told,E.want,E.baseA,?_,E.hth⟩,EvoA.refl _,hZ _,?_,Rx _,mW⟩
  ·exact RV E.baseB (Sz nx.symm)
  exact Sz nx.symm
 split
 ·rename_i k1 k2 k
  have C':=(NM C).c
  have hw:aJ w 1 (tick w.a).1=h_ w (tick w.a).1:=rfl
  rw [hw]
  unfold tick at C'⊢
  split at C'
  case isFalse hc=>rw [if_neg hc];exact CStep.endA E (SameE.refl _) rfl rfl mX
  rename_i hc
  rw [if_pos hc]
  rw [if_pos C.sta] at C'⊢
  unfold bA at C'⊢
  dsimp only at C'⊢
  have sides:∀ s∈w.a.subs.map bI,¬ sideAt s.road.far=0:=fun s hs=>by
   obtain⟨q,q1,rfl⟩:=RO.1 hs
   rw [(dZ q).road]
   exact NP C q q1
  have E1:CE p (h_ w { cP w.a with subs:=w.a.subs.map bI }):=by
   refine⟨E.cs.tick,E.nums,E.pol,E.ownA,E.farA,E.ownB,E.farB,E.done,E.over,⟨(uu _).2.trans E.room.1,E.room.2⟩,E.told,fun s hs=>?_,?_,E.baseB,E.hth⟩
   ·obtain⟨q,q1,rfl⟩:=RO.1 hs
    rw [(dZ q).road]
    exact E.want q q1
   show (jL w.a.out).base<=nextOf w.b.inp
   rw [(uu _).1];exact E.baseA
  have sm:=jR (k:=3) (e:={ cP w.a with subs:=w.a.subs.map bI })
  refine⟨E1.endA sm rfl rfl,?_,?_,?_,Rx _,fun y hy=>?_⟩
  ·show EvoA w.a.subs (bZ 3 { cP w.a with subs:=w.a.subs.map bI }).1.subs
   rw [sm.subs];exact EvoA.tick _
  ·show ∀ f∈w.a.far,∃ f'∈(bZ 3 { cP w.a with subs:=w.a.subs.map bI }).1.far,f'.id=f.id
   rw [sm.far];exact hZ _
  ·show nextOf w.a.inp<=nextOf (bZ 3 { cP w.a with subs:=w.a.subs.map bI }).1.inp
   rw [sm.inp];exact Rx _
  rcases Rz.1 hy with hy|hy
  ·rcases Rz.1 hy with hy|hy
   ·obtain⟨s,s1,s2⟩:=Sh.1 hy
    exact (Ld C s1 y s2).cl
   exact (Dq sides y hy).cl
  exact (qT sides y hy).cl
 split
 ·rename_i k1 k2 k3 k
  have hw:aJ w 1 (manage w.a).1=h_ w (manage w.a).1:=rfl
  rw [hw]
  unfold manage;split
  ·refine Dr C E fun r hr=>?_
   rw [fe] at hr;split at hr
   ·have:=(RU.1 hr).1
    rw [zl E.ownA C.oka.own E.farA C.oka.far,E.pol] at this
    exact this
   simp at hr
  exact CStep.endA E (SameE.refl _) rfl rfl mX
 split
 ·rename_i k1 k2 k3 k4 k
  obtain⟨a1,a2⟩:=A.ad k
  have hw:aJ w 1 (aN w.a a.addr).1=h_ w (aN w.a a.addr).1:=rfl
  rw [hw]
  unfold aN;split
  ·obtain⟨p1,p2,p3⟩:=E.ownA.put (a:={ a.addr with told:=false }) (.inr ⟨a1,by show a.addr.addr=10+2;omega⟩)
   exact⟨⟨E.cs,E.nums,E.pol,p1,E.farA,E.ownB,E.farB,E.done,E.over,E.room,E.told,fun s hs=>xq hp (mV p3) id (E.want s hs),E.baseA,E.baseB,E.hth⟩,EvoA.refl _,hZ _,Rx _,Rx _,mW⟩
  exact CStep.endA E (SameE.refl _) rfl rfl mX
 omega
theorem ON {l:List SubD} (h:∀ t∈l,t.state=3\/t.state=4):l.map bI=l:=by
 conv=>rhs;rw [<-List.map_id l]
 refine List.map_congr_left fun t ht=>?_
 rcases h t ht with h|h
 ·exact GV h
 exact ut h
theorem Ng {e:EndD} {l:List SubD} (h:∀ t∈l,t.state=3\/t.state=4):l.flatMap (dO e)=[]:=by
 rw [List.flatMap_eq_nil_iff]
 intro t ht
 rw [dO,if_neg (by rcases h t ht with h|h<;>omega)]
theorem IS {p:PolicyD} {w:WorldD} {a:ActD} (hp:p∈pols) (C:Core w) (G:SmallP w.b.inp) (E:CE p w) (A:CalmA a) (hs:a.side=2) (hk:a.kind<=7):CStep p w (aJ (eB w a) 2 (dq w.b a).1) (dq w.b a).2:=by
 have kk:=A.k
 have h12:¬ a.side=1:=zO
 unfold dq eB
 split
 ·rename_i k
  exact CStep.endB E (jS.trans jR) (by unfold e7;split<;>rfl) (by unfold e7;split<;>rfl) (qT (by rw [jS.subs];exact NQ C))
 split
 ·rename_i k
  have nx:=zq (m:=a.many) G C.okb
  have hr:cL w a.side (bu (bJ w a.side) a.many).2={ w with readB:=w.readB++(bu (bJ w a.side) a.many).2 }:=by rw [cL,if_neg h12]
  rw [hr]
  have q:(bu w.b a.many).1={ w.b with inp:=(bu w.b a.many).1.inp }:=by unfold bu;split<;>rfl
  rw [q]
  refine⟨⟨E.cs,E.nums,E.pol,E.ownA,E.farA,E.ownB,E.farB,E.done,E.over,E.room,E.told,E.want,?_,E.baseB,E.hth⟩,EvoA.refl _,hZ _,Rx _,?_,mW⟩
  ·exact RV E.baseA (Sz nx.symm)
  exact Sz nx.symm
 split
 ·rename_i k1 k2 k
  have hw:aJ w 2 (tick w.b).1=inB w (tick w.b).1:=rfl
  rw [hw]
  have st:∀ t∈w.b.subs,t.state=3\/t.state=4:=fun t ht=>(C.sb t ht).st
  unfold tick
  split
  case isFalse hc=>exact CStep.endB E (SameE.refl _) rfl rfl mX
  rw [if_pos C.stb,ON st,Ng st]
  unfold bA
  dsimp only
  have sides:∀ s∈w.b.subs,¬ sideAt s.road.far=0:=NQ C
  have E1:CE p (inB w { cP w.b with subs:=w.b.subs }):=by
   refine⟨E.cs.sub fun k hk=>(RU.1 hk).1,E.nums,E.pol,E.ownA,E.farA,E.ownB,E.farB,E.done,E.over,⟨E.room.1,(uu _).2.trans E.room.2⟩,E.told,E.want,E.baseA,?_,fun q hq=>E.hth q (RU.1 hq).1⟩
   show (jL w.b.out).base<=nextOf w.a.inp
   rw [(uu _).1];exact E.baseB
  have sm:=jR (k:=3) (e:={ cP w.b with subs:=w.b.subs })
  refine⟨E1.endB sm rfl rfl,EvoA.refl _,hZ _,Rx _,?_,fun y hy=>?_⟩
  ·show nextOf w.b.inp<=nextOf (bZ 3 { cP w.b with subs:=w.b.subs }).1.inp
   rw [sm.inp];exact Rx _
  rcases Rz.1 hy with hy|hy
  ·rcases Rz.1 hy with hy|hy
   ·simp at hy
   exact (Dq (e:={ cP w.b with subs:=w.b.subs }) sides y hy).cl
  exact (qT (e:={ cP w.b with subs:=w.b.subs }) sides y hy).cl
 split
 ·rename_i k1 k2 k3 k
  have hw:aJ w 2 (manage w.b).1=inB w (manage w.b).1:=rfl
  rw [hw,manage,if_neg (by have:=C.sib;omega)]
  exact CStep.endB E (SameE.refl _) rfl rfl mX
 split
 ·rename_i k1 k2 k3 k4 k
  obtain⟨a1,a2⟩:=A.ad k
  have hw:aJ w 2 (aN w.b a.addr).1=inB w (aN w.b a.addr).1:=rfl
  rw [hw]
  unfold aN;split
  ·obtain⟨p1,p2,p3⟩:=E.ownB.put (a:={ a.addr with told:=false }) (.inr ⟨a1,by show a.addr.addr=20+2;omega⟩)
   refine⟨⟨E.cs,E.nums,E.pol,E.ownA,E.farA,p1,E.farB,E.done,E.over,E.room,fun q hq g1 g2=>?_,E.want,E.baseA,E.baseB,E.hth⟩,EvoA.refl _,hZ _,Rx _,Rx _,mW⟩
   rcases gz hq with rfl|hq
   ·cases g2
   exact E.told q hq g1 g2
  exact CStep.endB E (SameE.refl _) rfl rfl mX
 omega
structure CW (p:PolicyD) (w:WorldD):Prop where
 e:CE p w
 l:∀ x∈w.bag,CL w x
theorem Lf {p:PolicyD} {side:Int} {w:WorldD} {y:LetterD} (W:CW p w) (Y:CL w y):CW p (br side w y)/\(br side w y).a=w.a/\(br side w y).b=w.b:=by
 rw [br,if_neg Y.to]
 refine⟨⟨W.e.same rfl rfl rfl,fun x hx=>?_⟩,rfl,rfl⟩
 have hx:x∈qg w.bag y:=hx
 rw [qg] at hx;split at hx
 ·rcases Rz.1 hx with hx|hx
  ·exact (W.l x hx).same rfl rfl
  rw [Rw.1 hx];exact Y.same rfl rfl
 exact (W.l x hx).same rfl rfl
theorem Ds {p:PolicyD} {side:Int}:∀ {l:List LetterD} {w:WorldD},CW p w->(∀ y∈l,CL w y)->CW p (az side w l)
 |[],w,W,_=>W
 |y::l,w,W,h=>by
  obtain⟨h1,h2,h3⟩:=Lf (side:=side) W (h y (RW ..))
  exact Ds (l:=l) h1 fun z hz=>(h z (RY _ hz)).same h2 h3
theorem CStep.cw {p:PolicyD} {w w':WorldD} {l:List LetterD} {side:Int} (W:CW p w) (S:CStep p w w' l) (L:Le w w') (hb:w'.bag=w.bag):CW p (az side w' l):=
 Ds ⟨S.e,fun x hx=>(W.l x (hb▸hx)).mono W.e.cs.pw L S.ea S.fa S.na S.nb⟩ S.ls
theorem Lg {p:PolicyD} {w:WorldD} {x:LetterD} (hp:p∈pols) (I:Inv w) (ga:SmallP w.a.inp) (gb:SmallP w.b.inp) (W:CW p w) (L:LetI w x) (X:CL w x):CW p (ed w x):=by
 rcases gr x.to with h0|h0|h0
 ·exact absurd h0 X.to
 ·rw [ed,if_neg zO,iZ,if_pos (.inl h0),h0]
  exact (Qn hp I.c ga L W.e X h0).cw W (K6 I.c ga L h0).le rfl
 rw [ed,if_neg zO,iZ,if_pos (.inr h0),h0]
 exact (Qo hp I.c gb L W.e X h0).cw W (K8 I.c gb L h0).le rfl
theorem CW.out {p:PolicyD} {w:WorldD} (W:CW p w) {l:List LetterD} (h:∀ x∈l,x∈w.bag):CW p { w with bag:=l }:=⟨W.e.same rfl rfl rfl,fun x hx=>(W.l x (h x hx)).same rfl rfl⟩
theorem FH {p:PolicyD} {w:WorldD} {a:ActD} (hp:p∈pols) (I:Inv w) (ga:SmallP w.a.inp) (gb:SmallP w.b.inp) (W:CW p w) (A:CalmA a):CW p (dy w a).1:=by
 unfold dy;split
 case isFalse=>exact W
 rename_i hok
 have hs:=iE hok
 split
 ·rename_i h7
  unfold aU;split
  ·exact W
  rename_i hb
  have hb:dx w a=false:=by simpa using hb
  obtain⟨k1,k2⟩:=sC w a a.side (dq (bJ w a.side) a).1
  rcases hs with hs|hs
  ·have hE:bJ w a.side=w.a:=by rw [hs];rfl
   rw [hE] at k1 k2⊢
   rw [hs] at k1 k2⊢
   exact (IR hp I.c ga W.e A hs h7).cw W (Qh I.c ga hs hb).le k1
  have hE:bJ w a.side=w.b:=by rw [hs];rfl
  rw [hE] at k1 k2⊢
  rw [hs] at k1 k2⊢
  exact (IS hp I.c gb W.e A hs h7).cw W (Ql I.c gb hs hb).le k1
 rename_i h7
 have kk:=A.k
 have hp0:=nz hok
 unfold bq
 split
 ·split
  ·exact W
  rename_i hl
  split
  ·have hx:lV w.bag a.pos.toNat∈w.bag:=g_ zO
   refine Lg hp (A7 I fun x hx=>I.bag x (jQ hx)) ga gb (W.out fun x hx=>jQ hx) ?_ ((W.l _ hx).same rfl rfl)
   exact (I.bag _ hx).mono (qw rfl rfl (fun _ h=>h) rfl rfl)
  exact W.out fun x hx=>jQ hx
 split
 ·split
  ·exact W
  rename_i hl
  rw [not_or] at hl
  refine W.out fun x hx=>?_
  rcases Rz.1 hx with hx|hx
  ·exact hx
  rw [Rw.1 hx];exact g_ zO
 omega
theorem Start.cw {w:WorldD} (S:Start w) (T:Start2 w):CW w.a.policy w:=by
 have h:=S.e
 simp only [startE,Ru,decide_eq_true_eq] at h
 obtain⟨⟨⟨⟨⟨⟨okx,oky⟩,h1,h2,h3,h4,h5,h6,h7,h8,h9,h10,h11,h12⟩,g1,g2,g3,g4,g5,g6,g7,g8⟩,o1,o2⟩,i1,i2,i3,i4,i5,i6⟩,s1,s2⟩:=h
 have n1:nextOf w.a.inp=0:=by unfold nextOf;rw [i1,i2];rfl
 have n2:nextOf w.b.inp=0:=by unfold nextOf;rw [i4,i5];rfl
 have a0:w.a.subs=[subA0]:=s1
 have b0:w.b.subs=[subB0]:=s2
 refine⟨⟨⟨⟨[],a0⟩,⟨[],b0⟩,by rw [a0];exact RL ..,fun s _ _ k hk=>by rw [g2] at hk;simp at hk,fun s hs _ t ht _=>?_,fun s hs t ht _=>?_,fun s hs e=>?_⟩,S.nums,rfl,⟨false,true,[],g3,zP⟩,⟨false,true,[],g5,zP⟩,⟨false,true,[],g4,zP⟩,⟨false,true,[],g6,zP⟩,T.done,T.over,⟨by rw [o1],by rw [o2]⟩,fun q hq e=>?_,fun s hs=>?_,by rw [o1,n2];exact Rx _,by rw [o2,n1];exact Rx _,fun q hq=>(by rw [g2] at hq;simp at hq)⟩,fun x hx=>by rw [S.bag] at hx;simp at hx⟩
 ·rw [b0] at ht;rw [Rw.1 ht];rfl
 ·rw [a0] at hs;rw [b0] at ht;rw [Rw.1 hs,Rw.1 ht];exact⟨rfl,rfl⟩
 ·rw [a0] at hs;rw [Rw.1 hs] at e;simp [subA0] at e
 ·rw [g4] at hq;rw [fV,Rw] at hq;rw [hq] at e;simp at e
 rw [a0] at hs;rw [Rw.1 hs];exact (A9 T.pol _ _).first
def Qq (k s m:Int):ActD:=⟨k,s,0,m,[],⟨0,0,false,false⟩,ac⟩
attribute [go_sem] Qq ac
theorem World0.life {w:WorldD} (h:World0 w):Life w 0:=⟨h.g,h.s.inv,h.s.ans⟩
theorem Rm {b:List UInt8} {α:Type} [Inhabited α] {C:CurD->α->CurD->Prop} (h:∀ c,c.ok b->∃ x c',C c x c'):∃ F:CurD->α×CurD,∀ c,c.ok b->C c (F c).1 (F c).2:=by
 classical
 refine⟨fun c=>if hc:c.ok b then ((h c hc).choose,(h c hc).choose_spec.choose) else (default,c),fun c hc=>?_⟩
 simp only [dif_pos hc]
 exact (h c hc).choose_spec.choose_spec
def kQ (F:CurD->ActD×CurD):Nat->CurD->List ActD×CurD
 |0,c=>([],c)
 |n+1,c=>((F c).1::(kQ F n (F c).2).1,(kQ F n (F c).2).2)
def G7 (a:ActD):Prop:=a.wf/\a.text.length<=200/\bG a=true
theorem DK {b:List UInt8} {F:CurD->ActD×CurD} (hF:∀ c,c.ok b->(F c).2.ok b/\G7 (F c).1):∀ (n:Nat) (c:CurD),c.ok b->(kQ F n c).2.ok b/\(kQ F n c).1.length=n/\∀ a∈(kQ F n c).1,G7 a
 |0,c,h=>⟨h,rfl,fun a ha=>by simp [kQ] at ha⟩
 |n+1,c,h=>by
  obtain⟨h1,h2⟩:=hF c h
  obtain⟨h3,h4,h5⟩:=DK hF n (F c).2 h1
  refine⟨h3,by simp only [kQ,RZ,h4],fun a ha=>?_⟩
  simp only [kQ,RR] at ha
  rcases ha with rfl|ha
  ·exact h2
  exact h5 a ha
theorem Bn (b:List UInt8) (c:CurD) (hc:c.ok b) (m:Int) (hm:1<=m/\m<=120):∃ (l:List ActD) (c':CurD),c'.ok b/\l.length<=120/\(∀ a∈l,G7 a)/\aP 19 [.sc (.pt 1 0 0),.sc (.int .i64 m)] (c.hp b) (.sc (.sl 2 0 l.length)) (c'.hp b++[some ⟨l.map ActD.cs,28,38,true,true⟩]):=by
 obtain⟨F,hF⟩:=Rm (b:=b) (DJ b)
 have h1:=aA b c hc m
 have o1:=CurD.below_ok hc m
 have b1:=c.below_lt b (n:=m) zO
 generalize c.below b m=r1 at h1 o1 b1
 obtain⟨v,c1⟩:=r1
 dsimp only at h1 o1 b1
 obtain⟨n,rfl⟩:=R2 b1.1
 obtain⟨q1,q2,q3⟩:=DK (F:=F) (fun c h=>⟨(hF c h).1,(hF c h).2.1⟩) n c1 o1
 obtain⟨R,hR⟩:∃ R,R=kQ F n c1:=⟨_,rfl⟩
 rw [<-hR] at q1 q2 q3
 refine⟨R.1,R.2,q1,zO,q3,?_⟩
 refine qE func19 ntmps19 results19 fun E hE=>?_
 refine qK (h1) (qI 0 2) ?_
 refine kw 2 hE (fun s (y:List ActD×CurD)=>s.at (qU [1,1,8,14]) [(7,.sc (.int .i64 (y.1.length:Nat))),(5,.sc (.sl 2 0 y.1.length))] (y.2.hp b++[some ⟨y.1.map ActD.cs,28,38,true,true⟩])) (fun (y:List ActD×CurD)=>y.1.length<=n/\y.2.ok b/\(y.1++(kQ F (n - y.1.length) y.2).1,(kQ F (n - y.1.length) y.2).2)=R) (fun (y:List ActD×CurD)=>n - y.1.length) ([],c1) (qI 0 3) (⟨SF _,o1,hR.symm⟩) fun y hy N hN=>?_
 obtain⟨acc,c2⟩:=y
 obtain⟨f1,f2,f3⟩:=hy
 dsimp only at f1 f2 f3
 obtain⟨k1,k2,k3⟩:=hF c2 f2
 refine qR ?_
 refine qB (fun h=>?_) fun h=>?_
 ·rw [show n - acc.length=(n - (acc.length+1))+1 from by omega,kQ] at f3
  generalize F c2=z at k1 k2 k3 f3
  obtain⟨a,c3⟩:=z
  dsimp only at k1 k2 k3 f3
  refine qK (k3) (qI 0 2) ?_
  refine⟨qC,hN _ (acc++[a],c3) (qI 0 2++qI 4 1) (by (try dsimp only);exact⟨by simp;omega,k1,by rw [RD,RJ,Sv];exact f3⟩) zS (ay zF zF ?_)⟩
  try simp (disch:=omega) only [go_sem,seval]
  try simp [ActD.cs]
 rw [show n - acc.length=0 from by omega] at f3
 simp only [kQ,RQ] at f3
 subst f3
 exact qF (qI 0 3)
theorem GoodW.mono {w:WorldD} {k j:Nat} (h:GoodW w k) (hk:k<=j):GoodW w j:=⟨h.a,h.b,h.r,by have:=h.wa;omega,by have:=h.wb;omega,by have:=h.ra;omega,by have:=h.rb;omega⟩
end
end Go.Proofs.YtdiiopjaebnmfaaGreatDoor
