/- Lemmas of this claim. -/
import Derived.Test.YtdiiopjaebnmfaaGreatZFnBaseK
set_option maxHeartbeats 16000000
set_option maxRecDepth 100000
set_option linter.unusedVariables false
set_option linter.unusedSimpArgs false
namespace Go.Proofs.YtdiiopjaebnmfaaGreat
open _root_.Go.Proofs.Tryz
open _root_.Bool renaming and_eq_true->KZ,not_eq_true'->Lh,or_eq_true->Lw,true_and->L4,or_eq_false_iff->Me,not_eq_false'->Mj,not_eq_true->Mk,false_and->Mm
open _root_.List renaming getElem_mem->K0,mem_singleton->K1,mem_append->K2,pairwise_iff_getElem->K5,getElem_of_mem->K6,mem_or_eq_of_mem_set->K7,length_append->K8,mem_cons_of_mem->K9,mem_append_left->K_,length_set->La,getElem_set->Lb,length_drop->Lc,pairwise_singleton->Ld,mem_cons->Lf,mem_cons_self->Lg,length_singleton->Li,append_nil->Lj,length_take->Lk,mem_map->Ll,all_eq_true->Lm,pairwise_append->Ln,length_cons->Lp,mem_take_iff_getElem->Lq,mem_filter->Lr,mem_iff_getElem->Ls,length_map->Lv,mem_set->Lx,takeWhile_cons->Ly,drop_append_of_le_length->Lz,take_append_drop->LA,mem_of_mem_take->LB,any_eq_true->LD,getD_eq_getElem?_getD->LF,mem_drop_iff_getElem->LG,getElem?_eq_getElem->LH,pairwise_cons->LI,set_cons_succ->LJ,filterMap_cons_some->LK,append_assoc->LN,getElem_cons_zero->LO,all_cons->LP,mem_flatMap->LQ,mem_append_right->LR,mem_of_mem_drop->LS,all_nil->LU,filter_sublist->LW,drop_drop->LX,filter_congr->L5,drop_sublist->L6,getElem_map->L7,cons_append->L9,length_filter_le->Mb,singleton_append->Mc,filterMap_append->Md,map_cons->Mf,dropWhile_cons->Mg,getElem_set_ne->Mh,nodup_cons->Ml,map_map->Mn
open _root_.Int renaming le_refl->K3,toNat_natCast->K4,le_trans->Lt,eq_ofNat_of_zero_le->LM,lt_of_lt_of_le->L3,le_of_eq->L_
open _root_.Nat renaming le_trans->Lo,lt_trichotomy->Lu,add_sub_cancel->LY,lt_or_gt_of_ne->LZ,min_le_right->L8,le_refl->Ma,eq_zero_or_pos->Mi
section
open Go.RowKit
def wroteB (w:WorldD) (side:Int) (t u:List UInt8):WorldD:=if side=1 then { w with wroteA:=w.wroteA++t,readA:=w.readA++u } else { w with wroteB:=w.wroteB++t,readB:=w.readB++u }
theorem GoodE.io {e e':EndD} (h:GoodE e) (hs:Small e') (hi:e'.inp=e.inp) (ho:e'.out.text=e.out.text):GoodE e':=⟨hs,by rw [hi];exact h.p,by rw [ho];exact h.o⟩
theorem z7 {k:Nat} {e:EndD} (h:GoodE e):GoodE (bC k e).1:=h.io (g0 h.s) kq iY
theorem CJ (e:EndD) (t:List UInt8):(cf e t).1.inp=e.inp:=by rw [cf];split<;>rfl
theorem kQ {e:EndD} {t:List UInt8} (h:GoodE e):GoodE (writeAll e t).1:=by
 rw [writeAll]
 exact z7 ⟨xI h.s,by rw [CJ];exact h.p,gM h.o⟩
theorem rK {p:PiecesD} {m:Int} (h:SmallP p):SmallP (aK p m).1:=by
 rw [aK];split
 ·exact⟨h.list,by have:=h.ready;simp only [Lc];omega,h.texts⟩
 exact h
theorem rL {e:EndD} {m:Int} (h:GoodE e):GoodE (b_ e m).1:=by
 have hs:=xJ (m:=m) h.s
 rw [b_] at hs⊢;split at hs
 ·rename_i hk;rw [if_pos hk];exact⟨hs,rK h.p,h.o⟩
 rename_i hk;rw [if_neg hk];exact h
theorem t8 (o:OutD):(dN o).text=o.text:=by rw [dN];split<;>rfl
theorem t9 {e:EndD} (h:GoodE e):GoodE (tick e).1:=by
 have hs:=z6 h.s
 refine h.io hs ?_ ?_
 ·rw [tick];split
  ·split
   ·rw [bm];exact kq
   rw [bm];exact kq
  rfl
 rw [tick];split
 ·split
  ·rw [bm];exact iY.trans (t8 _)
  rw [bm];exact iY.trans (t8 _)
 rfl
theorem GH (e:EndD) (r:RoadD) (b:Bool):(cA e r b).1.inp=e.inp/\(cA e r b).1.out=e.out:=by rw [cA];split<;>exact⟨rfl,rfl⟩
theorem xL {far:List AddrD}:∀ {l:List RoadD} {e:EndD},(ci far e l).1.inp=e.inp/\(ci far e l).1.out=e.out
 |[],e=>⟨rfl,rfl⟩
 |r::l,e=>by
  have h1:=GH e r (aD far r.far)
  have h2:=xL (far:=far) (l:=l) (e:=(cA e r (aD far r.far)).1)
  exact⟨h2.1.trans h1.1,h2.2.trans h1.2⟩
theorem oB {e:EndD} (h:GoodE e):GoodE (manage e).1:=by
 have hs:=vD h.s
 have hio:(manage e).1.inp=e.inp/\(manage e).1.out=e.out:=by
  rw [manage];split
  ·exact xL
  exact⟨rfl,rfl⟩
 exact h.io hs hio.1 (by rw [hio.2])
theorem oC {e:EndD} {a:AddrD} (h:GoodE e):GoodE (addOwn e a).1:=by
 refine h.io (vB h.s) ?_ ?_<;>(rw [addOwn];split<;>rfl)
theorem xM {e:EndD} {k:Int} (h:GoodE e):GoodE (iX e k).1:=by
 refine h.io (vC h.s) ?_ ?_<;>(rw [iX];split<;>rfl)
theorem vE {e:EndD} {n:Int} (h:GoodE e):GoodE (gm e n).1:=by
 refine h.io (sX h.s) ?_ ?_<;>(rw [gm];split<;>rfl)
theorem CK {e:EndD} {a:ActD} (h:GoodE e):GoodE (dj e a).1:=by
 rw [dj]
 split
 ·exact kQ h
 split
 ·exact rL h
 split
 ·exact t9 h
 split
 ·exact oB h
 split
 ·exact oC h
 split
 ·exact vE h
 exact xM h
structure GoodW (w:WorldD) (k:Nat):Prop where
 a:GoodE w.a
 b:GoodE w.b
 r:SmallP2 w
 wa:w.wroteA.length<=2000000*k
 wb:w.wroteB.length<=2000000*k
 ra:w.readA.length<=2000000*k
 rb:w.readB.length<=2000000*k
theorem GoodW.s {w:WorldD} {k:Nat} (h:GoodW w k):SmallW w:=⟨h.a.s,h.b.s,h.r.bag,h.r.past,h.r.keys,h.r.tags,h.r.nums,h.r.ansA,h.r.ansB⟩
theorem GoodW.up {w:WorldD} {k:Nat} (h:GoodW w k):GoodW w (k+1):=⟨h.a,h.b,h.r,by have:=h.wa;omega,by have:=h.wb;omega,by have:=h.ra;omega,by have:=h.rb;omega⟩
theorem dw {side:Int}:∀ {l:List LetterD} {w:WorldD},(bY side w l).a=w.a/\(bY side w l).b=w.b/\(bY side w l).wroteA=w.wroteA/\(bY side w l).wroteB=w.wroteB/\(bY side w l).readA=w.readA/\(bY side w l).readB=w.readB
 |[],w=>⟨rfl,rfl,rfl,rfl,rfl,rfl⟩
 |x::l,w=>by
  obtain⟨h1,h2,h3,h4,h5,h6⟩:=dw (side:=side) (l:=l) (w:=bl side w x)
  obtain⟨g1,g2,g3,g4,g5,g6⟩:=fy (side:=side) (w:=w) (x:=x)
  exact⟨h1.trans g1,h2.trans g2,h3.trans g3,h4.trans g4,h5.trans g5,h6.trans g6⟩
theorem rM {side:Int} {l:List LetterD} {w:WorldD} {k:Nat} (h:GoodW w k):GoodW (bY side w l) k:=by
 obtain⟨h1,h2,h3,h4,h5,h6⟩:=dw (side:=side) (l:=l) (w:=w)
 exact⟨by rw [h1];exact h.a,by rw [h2];exact h.b,ol h.r,by rw [h3];exact h.wa,by rw [h4];exact h.wb,by rw [h5];exact h.ra,by rw [h6];exact h.rb⟩
theorem oD {w:WorldD} {s:Int} {e:EndD} {k:Nat} (h:GoodW w k) (he:GoodE e):GoodW (aV w s e) k:=by
 unfold aV;split
 ·exact⟨he,h.b,⟨h.r.bag,h.r.past,h.r.keys,h.r.tags,h.r.nums,h.r.ansA,h.r.ansB⟩,h.wa,h.wb,h.ra,h.rb⟩
 exact⟨h.a,he,⟨h.r.bag,h.r.past,h.r.keys,h.r.tags,h.r.nums,h.r.ansA,h.r.ansB⟩,h.wa,h.wb,h.ra,h.rb⟩
theorem vF:GoodE fI:=⟨⟨by decide,by decide,by decide,by decide,by decide,by decide,by decide⟩,⟨by decide,by decide,fun x hx=>by simp [fI] at hx⟩,by decide⟩
theorem ln {w:WorldD} {s:Int} {k:Nat} (h:GoodW w k):GoodE (dc w s):=by
 unfold dc;repeat' split
 ·exact h.a
 ·exact h.b
 exact vF
theorem xN {side:Int} {l:List LetterD} {w:WorldD} {k:Nat} (h:GoodW w k):GoodW (f6 w side l) k:=by
 rw [f6];split
 ·exact rM h
 exact h
theorem z8 {w:WorldD} {x:LetterD} {k:Nat} (h:GoodW w k):GoodW (eY w x) k:=by
 rw [eY];split
 ·exact h
 exact xN (oD h (tV (ln h)))
theorem rN {w:WorldD} {b:List LetterD} {k:Nat} (h:GoodW w k) (hb:b.length<=1048576):GoodW { w with bag:=b } k:=
 ⟨h.a,h.b,⟨hb,h.r.past,h.r.keys,h.r.tags,h.r.nums,h.r.ansA,h.r.ansB⟩,h.wa,h.wb,h.ra,h.rb⟩
theorem z9 (l:List LetterD) (n:Int) (h:l.length<=1048576):(nz l n).length<=1048576:=by
 simp only [nz,K8,Lk,Lc];omega
theorem CM {w:WorldD} {a:ActD} {k:Nat} (h:GoodW w k) (ha:a.text.length<=1048576):GoodW (fA w a) (k+1):=by
 have hr:=CI (m:=a.many) (ln (s:=a.side) h).p
 have h1:=h.wa
 have h2:=h.wb
 have h3:=h.ra
 have h4:=h.rb
 have hu:=h.up
 unfold fA kP fL;repeat' split
 ·exact⟨h.a,h.b,⟨h.r.bag,h.r.past,h.r.keys,h.r.tags,h.r.nums,h.r.ansA,h.r.ansB⟩,by simp only [K8,Lk];omega,hu.wb,hu.ra,hu.rb⟩
 ·exact⟨h.a,h.b,⟨h.r.bag,h.r.past,h.r.keys,h.r.tags,h.r.nums,h.r.ansA,h.r.ansB⟩,hu.wa,by simp only [K8,Lk];omega,hu.ra,hu.rb⟩
 ·exact⟨h.a,h.b,⟨h.r.bag,h.r.past,h.r.keys,h.r.tags,h.r.nums,h.r.ansA,h.r.ansB⟩,hu.wa,hu.wb,by simp only [K8];omega,hu.rb⟩
 ·exact⟨h.a,h.b,⟨h.r.bag,h.r.past,h.r.keys,h.r.tags,h.r.nums,h.r.ansA,h.r.ansB⟩,hu.wa,hu.wb,hu.ra,by simp only [K8];omega⟩
 exact hu
theorem z_ {w:WorldD} {a:ActD} {k:Nat} (h:GoodW w k) (ha:a.text.length<=1048576):GoodW (gZ w a).1 (k+1):=by
 have hb:=z9 w.bag a.pos h.r.bag
 have hl:=h.r.bag
 unfold gZ;split
 ·split
  ·unfold Ct;split
   ·exact h.up
   exact rM (oD (CM h ha) (CK (ln h)))
  unfold ou;repeat' split
  all_goals first
   |exact h.up
   |exact (z8 (rN h hb)).up
   |exact (rN h hb).up
   |exact (rN h (by simp only [K8,Li];omega)).up
 exact h.up
theorem nD {a:ActD} (h:wR a=true):0<=a.pos:=by
 simp only [wR,kj,co,KZ,decide_eq_true_eq] at h
 omega
def vG (l:List LetterD):Prop:=∀ y∈l,¬ y.kind=5
theorem aU:vG []:=fun y hy=>by simp at hy
theorem fc {x:LetterD} (h:¬ x.kind=5):vG [x]:=fun y hy=>by rw [K1] at hy;rw [hy];exact h
theorem pm {l m:List LetterD} (h:vG l) (g:vG m):vG (l++m):=fun y hy=>(K2.1 hy).elim (h y) (g y)
theorem Bo {α:Type} {l:List α} {f:α->LetterD} (h:∀ a,¬ (f a).kind=5):vG (l.map f):=fun y hy=>by
 obtain⟨a,_,rfl⟩:=Ll.1 hy
 exact h a
theorem EV {e:EndD}:vG (ck e).2:=by
 unfold ck;split
 ·exact fc (by simp [tW,ae])
 exact aU
theorem nE:∀ {k:Nat} {e:EndD},vG (bC k e).2
 |0,e=>aU
 |k+1,e=>pm EV (nE (k:=k))
theorem EW {e:EndD}:vG (bx e):=by
 unfold bx;split
 ·exact Bo fun a=>by simp [mq,ae]
 exact aU
theorem CN {e:EndD} {s:SubD}:vG (cP e s):=by
 unfold cP;repeat' split
 all_goals first|exact aU|exact fc (by simp [dX,bi,ae])
theorem EY {e:EndD} {r:RoadD} {s:Bool}:vG (cA e r s).2:=by
 unfold cA;split
 ·exact fc (by simp [dX,ae])
 exact aU
theorem t_ {far:List AddrD}:∀ {l:List RoadD} {e:EndD},vG (ci far e l).2
 |[],e=>aU
 |r::l,e=>pm EY (t_ (l:=l))
structure Keep (e e':EndD):Prop where
 now:e'.now=e.now
 bucket:e'.bucket=e.bucket
 halfs:e'.halfs=e.halfs
theorem Keep.refl (e:EndD):Keep e e:=⟨rfl,rfl,rfl⟩
theorem Keep.trans {a b c:EndD} (h:Keep a b) (g:Keep b c):Keep a c:=⟨g.now.trans h.now,g.bucket.trans h.bucket,g.halfs.trans h.halfs⟩
theorem CO {e:EndD}:Keep e (ck e).1:=by unfold ck;split<;>exact⟨rfl,rfl,rfl⟩
theorem lq:∀ {k:Nat} {e:EndD},Keep e (bC k e).1
 |0,e=>Keep.refl e
 |k+1,e=>CO.trans (lq (k:=k))
theorem CP {e:EndD} {r:RoadD} {s:Bool}:Keep e (cA e r s).1:=by unfold cA;split<;>exact⟨rfl,rfl,rfl⟩
theorem i9 {far:List AddrD}:∀ {l:List RoadD} {e:EndD},Keep e (ci far e l).1
 |[],e=>Keep.refl e
 |r::l,e=>CP.trans (i9 (l:=l))
theorem Aa {e:EndD} {t:List UInt8}:Keep e (cf e t).1:=by unfold cf;split<;>exact⟨rfl,rfl,rfl⟩
structure YoungE (e:EndD):Prop where
 now:0<=e.now/\e.now<=1000000000
 rate:e.bucket.rate=1
 burst:e.bucket.burst=3
 cur:0<=e.bucket.cur/\e.bucket.cur<=3
 halfs:∀ h∈e.halfs,e.now < h.till/\h.till<=e.now+6
 few:e.halfs.length<=4
 subs:e.subs.length<=8
theorem YoungE.keep {e e':EndD} (h:YoungE e) (k:Keep e e') (hs:e'.subs.length<=8):YoungE e':=by
 obtain⟨k1,k2,k3⟩:=k
 exact⟨by rw [k1];exact h.now,by rw [k2];exact h.rate,by rw [k2];exact h.burst,by rw [k2];exact h.cur,by rw [k1,k3];exact h.halfs,by rw [k3];exact h.few,hs⟩
theorem ua {e:EndD}:(ck e).1.subs=e.subs:=by unfold ck;split<;>rfl
theorem fB:∀ {k:Nat} {e:EndD},(bC k e).1.subs=e.subs
 |0,e=>rfl
 |k+1,e=>(fB (k:=k)).trans ua
theorem CQ {e:EndD} {r:RoadD} {s:Bool} (h:e.subs.length<=8):(cA e r s).1.subs.length<=8:=by
 unfold cA;split
 ·rename_i hk
  simp only [sT,KZ,decide_eq_true_eq] at hk
  simp only [K8,Li]
  omega
 exact h
theorem rO {far:List AddrD}:∀ {l:List RoadD} {e:EndD},e.subs.length<=8->(ci far e l).1.subs.length<=8
 |[],e,h=>h
 |r::l,e,h=>rO (l:=l) (CQ h)
theorem jT {e:EndD} (h:YoungE e):bucketOk e.bucket=true:=by
 have h1:=h.rate;have h2:=h.burst;have h3:=h.cur
 simp only [bucketOk,co,KZ,decide_eq_true_eq]
 omega
def xO (e:EndD) (r:EndD×List LetterD):Prop:=
 (r.1.now=e.now/\r.1.bucket=e.bucket/\vG r.2)\/(r.1.now=e.now/\0 < e.bucket.cur/\r.1.bucket={ e.bucket with cur:=e.bucket.cur - 1 }/\∃ y,r.2=[y])\/(r.1.now=e.now+1/\r.1.bucket={ e.bucket with cur:=min 3 (e.bucket.cur+1) }/\vG r.2)
theorem sY {e:EndD} (h:YoungE e) (ht:(bf e.bucket).2=true):0 < e.bucket.cur/\(bf e.bucket).1={ e.bucket with cur:=e.bucket.cur - 1 }:=by
 rw [bf] at ht⊢
 have h3:=h.cur
 split at ht
 ·rename_i hc
  rw [if_pos hc]
  exact⟨by have:=hc.2;omega,rfl⟩
 simp at ht
theorem my {l:List HalfD} {n:Nat} {t now:Int} (ht:now < t/\t<=now+6) (h:∀ h∈l,now < h.till/\h.till<=now+6) {q:HalfD} (hq:q.till=t):∀ h∈l.set n q,now < h.till/\h.till<=now+6:=fun y hy=>by
 rcases K7 hy with hy|hy
 ·exact h y hy
 rw [hy,hq];exact ht
theorem sZ {l:List HalfD} {now:Int} {q:HalfD} (hq:now < q.till/\q.till<=now+6) (h:∀ h∈l,now < h.till/\h.till<=now+6) (hl:l.length<=4):(∀ h∈(aF l q).1,now < h.till/\h.till<=now+6)/\(aF l q).1.length<=4:=by
 rw [aF];split
 ·rename_i hk
  refine⟨?_,cI hk⟩
  dsimp only
  rw [a_];split
  ·exact my hq h rfl
  intro y hy
  rcases K2.1 hy with hy|hy
  ·exact h y hy
  rw [K1.1 hy];exact hq
 exact⟨h,hl⟩
theorem jU {l:List HalfD} {r:RoadD}:(∀ h∈aS l r,h∈l)/\(aS l r).length<=l.length:=by
 rw [aS];split
 ·exact⟨fun _ h=>h,Ma _⟩
 exact⟨fun y hy=>(K2.1 hy).elim LB LS,by simp only [K8,Lk,Lc];omega⟩
theorem CR {e:EndD} {x:LetterD} (h:YoungE e):xO e (hear e x)/\YoungE (hear e x).1:=by
 have same:∀ {s:List SubD} {o f:List AddrD} {q:Int} {st k p:Int} {i:PiecesD} {u:OutD} {dn ov:List Int},s.length<=8->YoungE { e with subs:=s,own:=o,far:=f,draw:=q,state:=st,key:=k,peer:=p,inp:=i,out:=u,done:=dn,over:=ov }:=fun hs=>⟨h.now,h.rate,h.burst,h.cur,h.halfs,h.few,hs⟩
 have hsub:=h.subs
 have t0:∀ {e':EndD} {l:List LetterD},e'.now=e.now->e'.bucket=e.bucket->vG l->xO e (e',l):=fun h1 h2 h3=>.inl ⟨h1,h2,h3⟩
 refine jN (Q:=fun r=>xO e r/\YoungE r.1) ⟨t0 rfl rfl aU,h⟩ ?_ ?_ ?_ ?_ ?_ ?_ ?_ ?_ ?_ ?_ ?_ ?_
 ·unfold ay;split
  ·rename_i hk
   simp only [fF,KZ,decide_eq_true_eq] at hk
   exact⟨t0 rfl rfl (fc (by simp [ae])),same (by simp only [K8,Li];omega)⟩
  exact⟨t0 rfl rfl aU,h⟩
 ·unfold aT;split
  ·exact⟨t0 rfl rfl (fc (by simp [ae])),same (by rw [La];exact hsub)⟩
  exact⟨t0 rfl rfl aU,h⟩
 ·unfold bs;split
  ·rename_i hk
   simp only [ji,KZ,decide_eq_true_eq] at hk
   obtain⟨hc,hb⟩:=sY h hk.2
   have ht:e.now < e.now+6/\e.now+6<=e.now+6:=zO
   split
   ·refine⟨.inr (.inl ⟨rfl,hc,hb,_,rfl⟩),⟨h.now,by rw [hb];exact h.rate,by rw [hb];exact h.burst,by rw [hb];have:=h.cur;dsimp only;omega,my ht h.halfs rfl,by dsimp only;rw [La];exact h.few,hsub⟩⟩
   obtain⟨p1,p2⟩:=sZ (q:=ai e x) ht h.halfs h.few
   exact⟨.inr (.inl ⟨rfl,hc,hb,_,rfl⟩),⟨h.now,by rw [hb];exact h.rate,by rw [hb];exact h.burst,by rw [hb];have:=h.cur;dsimp only;omega,p1,p2,hsub⟩⟩
  exact⟨t0 rfl rfl aU,h⟩
 ·unfold aC;split
  ·exact⟨t0 rfl rfl (fc (by simp [bi,ae])),same (by rw [La];exact hsub)⟩
  exact⟨t0 rfl rfl aU,h⟩
 ·unfold ao;split
  ·split
   ·rename_i hk
    simp only [oe,KZ,decide_eq_true_eq] at hk
    have hd:=jU (l:=e.halfs) (r:=roadOf x)
    refine⟨t0 rfl rfl (fc (by simp [dU,ae])),⟨h.now,h.rate,h.burst,h.cur,fun y hy=>h.halfs y (hd.1 y hy),Lo hd.2 h.few,?_⟩⟩
    dsimp only
    split<;>simp only [ba,K8,La,Li]<;>omega
   split
   ·exact⟨t0 rfl rfl (fc (by simp [dU,ae])),h⟩
   exact⟨t0 rfl rfl aU,h⟩
  exact⟨t0 rfl rfl aU,h⟩
 ·unfold aE;dsimp only;split
  ·exact⟨t0 rfl rfl aU,same (by rw [ba,La];exact hsub)⟩
  exact⟨t0 rfl rfl aU,h⟩
 ·unfold bH;split
  ·exact⟨t0 rfl rfl (fc (by simp [og,ae])),same hsub⟩
  exact⟨t0 rfl rfl aU,h⟩
 ·unfold bI;dsimp only;split
  ·exact⟨t0 rfl rfl aU,same hsub⟩
  exact⟨t0 rfl rfl aU,h⟩
 ·unfold bJ;dsimp only;split
  ·exact⟨t0 rfl rfl aU,same (by rw [Lv];exact hsub)⟩
  exact⟨t0 rfl rfl aU,h⟩
 ·unfold bK;split
  ·exact⟨t0 rfl rfl (fc (by simp [qT,ae])),same hsub⟩
  exact⟨t0 rfl rfl aU,h⟩
 ·unfold bB;dsimp only;split
  ·exact⟨t0 rfl rfl aU,same hsub⟩
  exact⟨t0 rfl rfl aU,h⟩
 unfold bg;dsimp only;split
 ·exact⟨t0 rfl rfl aU,same (by rw [ba,La];exact hsub)⟩
 exact⟨t0 rfl rfl aU,h⟩
theorem vH {e:EndD} {l:List LetterD} (hl:vG l):Keep e (bm e l).1/\vG (bm e l).2/\(bm e l).1.subs=e.subs:=⟨lq,pm (pm hl EW) nE,fB⟩
theorem CT {e:EndD} (h:YoungE e):xO e (tick e)/\YoungE (tick e).1:=by
 unfold tick;split
 ·rename_i hk
  simp only [Bm,KZ,decide_eq_true_eq] at hk
  have hb:cJ e.bucket={ e.bucket with cur:=min 3 (e.bucket.cur+1) }:=by
   rw [cJ,if_pos (jT h),h.rate,h.burst]
   have h1:=h.rate
   have h2:=h.burst
   cases hb:e.bucket
   rw [hb] at h1 h2
   dsimp only at h1 h2⊢
   rw [h1,h2]
  have hn:=hk.1.2
  have hy:∀ s:List SubD,s.length<=8->YoungE { bU e with subs:=s }:=fun s hs=>by
   refine⟨by have:=h.now;simp only [bU];omega,by simp only [bU];rw [hb];exact h.rate,by simp only [bU];rw [hb];exact h.burst,by simp only [bU];rw [hb];have:=h.cur;dsimp only;omega,?_,?_,hs⟩
   ·intro y hy
    simp only [bU,cc,Lr,decide_eq_true_eq] at hy⊢
    have:=h.halfs y hy.1
    omega
   simp only [bU,cc]
   exact Lo (Mb _ _) h.few
  have fin:∀ (s:List SubD) (l:List LetterD),s.length<=8->vG l->xO e (bm { bU e with subs:=s } l)/\YoungE (bm { bU e with subs:=s } l).1:=fun s l hs hl=>by
   obtain⟨k1,k2,k3⟩:=vH (e:={ bU e with subs:=s }) hl
   refine⟨.inr (.inr ⟨k1.now,by rw [k1.bucket];exact hb,k2⟩),(hy s hs).keep k1 (by rw [k3];exact hs)⟩
  split
  ·exact fin _ _ (by rw [Lv];exact h.subs) fun y hy=>by
    obtain⟨s,_,hs⟩:=LQ.1 hy
    exact CN y hs
  exact fin e.subs [] h.subs aU
 exact⟨.inl ⟨rfl,rfl,aU⟩,h⟩
theorem CU {e:EndD} {a:ActD} (h:YoungE e):xO e (dj e a)/\YoungE (dj e a).1:=by
 unfold dj
 split
 ·have hk:Keep e (writeAll e a.text).1:=Aa.trans lq
  have hs:(writeAll e a.text).1.subs=e.subs:=by rw [writeAll,fB];unfold cf;split<;>rfl
  exact⟨.inl ⟨hk.now,hk.bucket,nE⟩,h.keep hk (by rw [hs];exact h.subs)⟩
 split
 ·have hk:Keep e (b_ e a.many).1:=by unfold b_;split<;>exact⟨rfl,rfl,rfl⟩
  have hs:(b_ e a.many).1.subs=e.subs:=by unfold b_;split<;>rfl
  exact⟨.inl ⟨hk.now,hk.bucket,aU⟩,h.keep hk (by rw [hs];exact h.subs)⟩
 split
 ·exact CT h
 split
 ·unfold manage;split
  ·exact⟨.inl ⟨i9.now,i9.bucket,t_⟩,h.keep i9 (rO h.subs)⟩
  exact⟨.inl ⟨rfl,rfl,aU⟩,h⟩
 split
 ·have hk:Keep e (addOwn e a.addr).1:=by unfold addOwn;split<;>exact⟨rfl,rfl,rfl⟩
  have hs:(addOwn e a.addr).1.subs=e.subs:=by unfold addOwn;split<;>rfl
  exact⟨.inl ⟨hk.now,hk.bucket,aU⟩,h.keep hk (by rw [hs];exact h.subs)⟩
 split
 ·unfold gm;split
  ·exact⟨.inl ⟨rfl,rfl,Bo fun k=>by simp [Bl,ae]⟩,⟨h.now,h.rate,h.burst,h.cur,h.halfs,h.few,by dsimp only;rw [fW,Lv];exact h.subs⟩⟩
  exact⟨.inl ⟨rfl,rfl,aU⟩,h⟩
 unfold iX;split
 ·exact⟨.inl ⟨rfl,rfl,fc (by simp [ae])⟩,⟨h.now,h.rate,h.burst,h.cur,h.halfs,h.few,by dsimp only;rw [ba,La];exact h.subs⟩⟩
 exact⟨.inl ⟨rfl,rfl,aU⟩,h⟩
def cntF (l:List Int) (f g:Int):Nat:=(l.filter fun x=>decide (f<=x) && decide (x<=g)).length
theorem xP (l:List Int) (n f g:Int):cntF (l++[n]) f g=cntF l f g+(if f<=n/\n<=g then 1 else 0):=by
 rw [cntF,cntF,List.filter_append,K8]
 congr 1
 by_cases h:f<=n/\n<=g
 ·rw [if_pos h];simp [h.1,h.2]
 rw [if_neg h]
 by_cases h1:f<=n
 ·simp [h1,show ¬ n<=g by omega]
 simp [h1]
structure AnsI (l:List Int) (e:EndD):Prop where
 y:YoungE e
 t:∀ x∈l,0<=x/\x<=e.now
 i:∀ f:Int,f<=e.now->(cntF l f e.now:Int)+e.bucket.cur<=3+(e.now - f)
 j:∀ f g:Int,f<=g->g<=e.now->(cntF l f g:Int)<=3+(g - f)
theorem Bp {l:List Int} {f g k:Int} (ht:∀ x∈l,x<=g) (h:g<=k):cntF l f k=cntF l f g:=by
 rw [cntF,cntF]
 congr 1
 refine L5 fun x hx=>?_
 have:=ht x hx
 simp only [decide_eq_true (show x<=g from this),decide_eq_true (show x<=k by omega)]
theorem ub {l:List Int} {f g:Int} (ht:∀ x∈l,x < f):cntF l f g=0:=by
 rw [cntF,List.length_eq_zero_iff,List.filter_eq_nil_iff]
 intro x hx
 have:=ht x hx
 simp only [KZ,decide_eq_true_eq]
 omega
def xQ (side:Int) (now:Int) (ns:List Int):List LetterD->List Int
 |[]=>ns
 |x::l=>xQ side now (ri ns (rk side side x) now) l
theorem rP {side now:Int}:∀ {l:List LetterD} {ns:List Int},vG l->xQ side now ns l=ns
 |[],ns,h=>rfl
 |x::l,ns,h=>by
  rw [xQ,H7 (h x zP),vv]
  exact rP fun y hy=>h y (by simp [hy])
theorem xR {ns:List Int} {e:EndD} {r:EndD×List LetterD} {side:Int} (h:AnsI ns e) (ht:xO e r) (hy:YoungE r.1):AnsI (xQ side r.1.now ns r.2) r.1:=by
 have hcur:=h.y.cur
 rcases ht with⟨h1,h2,h3⟩|⟨h1,h2,h3,y,h4⟩|⟨h1,h2,h3⟩
 ·rw [rP h3]
  exact⟨hy,by rw [h1];exact h.t,by rw [h1,h2];exact h.i,by rw [h1];exact h.j⟩
 ·rw [h4,xQ,xQ,h1]
  have hc:∀ {l:List Int},AnsI l e->(∀ x∈ns,x∈l)->(l=ns\/l=ns++[e.now])->AnsI l r.1\/True:=fun _ _ _=>.inr trivial
  rcases (show ri ns (rk side side y) e.now=ns\/ri ns (rk side side y) e.now=ns++[e.now] by rw [ri];split;exact .inr rfl;exact .inl rfl) with e1|e1
  ·rw [e1]
   refine⟨hy,by rw [h1];exact h.t,fun f hf=>?_,by rw [h1];exact h.j⟩
   rw [h1] at hf⊢
   have:=h.i f hf
   rw [h3]
   dsimp only
   omega
  rw [e1]
  refine⟨hy,fun x hx=>?_,fun f hf=>?_,fun f g hf hg=>?_⟩
  ·rw [h1]
   rcases K2.1 hx with hx|hx
   ·exact h.t x hx
   rw [K1.1 hx];have:=h.y.now;omega
  ·rw [h1] at hf⊢
   have:=h.i f hf
   rw [xP,if_pos zO,h3]
   dsimp only
   omega
  rw [h1] at hg
  rw [xP]
  by_cases hgn:g=e.now
  ·subst hgn
   have:=h.i f hf
   rw [if_pos zO]
   omega
  have:=h.j f g hf hg
  rw [if_neg zO]
  omega
 rw [rP h3]
 refine⟨hy,fun x hx=>by have:=h.t x hx;rw [h1];omega,fun f hf=>?_,fun f g hf hg=>?_⟩
 ·rw [h1] at hf⊢
  rw [h2]
  dsimp only
  by_cases hfn:f<=e.now
  ·have:=h.i f hfn
   rw [Bp (g:=e.now) (fun x hx=>(h.t x hx).2) zO]
   omega
  rw [ub fun x hx=>by have:=h.t x hx;omega]
  omega
 rw [h1] at hg
 by_cases hfn:f<=e.now
 ·by_cases hgn:g<=e.now
  ·exact h.j f g hf hgn
  have:=h.i f hfn
  rw [Bp (g:=e.now) (fun x hx=>(h.t x hx).2) zO]
  omega
 rw [ub fun x hx=>by have:=h.t x hx;omega]
 omega
structure AnsW (w:WorldD):Prop where
 a:AnsI w.answersA w.a
 b:AnsI w.answersB w.b
theorem uc {side:Int} {w:WorldD} {x:LetterD}:(bl side w x).answersA=ri w.answersA (rk side 1 x) w.a.now/\(bl side w x).answersB=ri w.answersB (rk side 2 x) w.b.now:=by
 rw [bl];split<;>exact⟨rfl,rfl⟩
theorem rQ:∀ {l:List LetterD} {w:WorldD},(bY 1 w l).answersA=xQ 1 w.a.now w.answersA l/\(bY 1 w l).answersB=w.answersB
 |[],w=>⟨rfl,rfl⟩
 |x::l,w=>by
  obtain⟨h1,h2⟩:=rQ (l:=l) (w:=bl 1 w x)
  obtain⟨g1,g2⟩:=uc (side:=1) (w:=w) (x:=x)
  have ge:=(fy (side:=1) (w:=w) (x:=x)).1
  rw [show bY 1 w (x::l)=bY 1 (bl 1 w x) l from rfl,h1,h2,g1,g2,ge,EF (side:=1) (k:=2) zO,vv]
  exact⟨rfl,rfl⟩
theorem rR:∀ {l:List LetterD} {w:WorldD},(bY 2 w l).answersB=xQ 2 w.b.now w.answersB l/\(bY 2 w l).answersA=w.answersA
 |[],w=>⟨rfl,rfl⟩
 |x::l,w=>by
  obtain⟨h1,h2⟩:=rR (l:=l) (w:=bl 2 w x)
  obtain⟨g1,g2⟩:=uc (side:=2) (w:=w) (x:=x)
  have ge:=(fy (side:=2) (w:=w) (x:=x)).2.1
  rw [show bY 2 w (x::l)=bY 2 (bl 2 w x) l from rfl,h1,h2,g1,g2,ge,EF (side:=2) (k:=1) zO,vv]
  exact⟨rfl,rfl⟩
theorem ud {w w':WorldD} {s:Int} {r:EndD×List LetterD} (hs:s=1\/s=2) (h:AnsW w) (ht:xO (dc w s) r) (hy:YoungE r.1) (ea:w'.a=w.a) (eb:w'.b=w.b) (e1:w'.answersA=w.answersA) (e2:w'.answersB=w.answersB):
  AnsW (bY s (aV w' s r.1) r.2):=by
 rcases hs with rfl|rfl
 ·rw [dc,if_pos rfl] at ht
  obtain⟨p1,p2⟩:=rQ (l:=r.2) (w:=aV w' 1 r.1)
  obtain⟨q1,q2,_⟩:=lg (side:=1) (l:=r.2) (w:=aV w' 1 r.1)
  rw [aV,if_pos rfl] at*
  refine⟨?_,?_⟩
  ·rw [p1,q1];dsimp only;rw [e1];exact xR h.a ht hy
  rw [p2,q2];dsimp only;rw [e2,eb];exact h.b
 rw [dc,if_neg zO,if_pos rfl] at ht
 obtain⟨p1,p2⟩:=rR (l:=r.2) (w:=aV w' 2 r.1)
 obtain⟨q1,q2,_⟩:=lg (side:=2) (l:=r.2) (w:=aV w' 2 r.1)
 rw [aV,if_neg zO] at*
 refine⟨?_,?_⟩
 ·rw [p2,q1];dsimp only;rw [e1,ea];exact h.a
 rw [p1,q2];dsimp only;rw [e2];exact xR h.b ht hy
theorem oE {w:WorldD} {s:Int} (hs:s=1\/s=2) (h:AnsW w):YoungE (dc w s):=by
 rcases hs with rfl|rfl
 ·rw [dc,if_pos rfl];exact h.a.y
 rw [dc,if_neg zO,if_pos rfl];exact h.b.y
theorem Ab {w:WorldD} {x:LetterD} (h:AnsW w):AnsW (eY w x):=by
 rcases iy x.to with h0|h0
 ·rw [eY,if_pos h0];exact h
 obtain⟨t1,t2⟩:=CR (x:=x) (oE h0 h)
 rw [eY,if_neg zO,f6,if_pos h0]
 exact ud h0 h t1 t2 rfl rfl rfl rfl
theorem i_ {a:ActD} (h:wR a=true):a.side=1\/a.side=2:=by
 simp only [wR,co,KZ,decide_eq_true_eq] at h
 omega
theorem nF (w:WorldD) (a:ActD):(fA w a).a=w.a/\(fA w a).b=w.b/\(fA w a).answersA=w.answersA/\(fA w a).answersB=w.answersB:=by
 unfold fA kP fL;repeat' split
 all_goals exact⟨rfl,rfl,rfl,rfl⟩
theorem Ac {w:WorldD} {a:ActD} (h:AnsW w):AnsW (gZ w a).1:=by
 have ha:∀ b:List LetterD,AnsW { w with bag:=b }:=fun b=>⟨h.a,h.b⟩
 unfold gZ;split
 ·rename_i hok
  have hs:=i_ hok
  split
  ·unfold Ct;split
   ·exact h
   obtain⟨t1,t2⟩:=CU (a:=a) (oE hs h)
   obtain⟨s1,s2,s3,s4⟩:=nF w a
   exact ud hs h t1 t2 s1 s2 s3 s4
  unfold ou;repeat' split
  all_goals first|exact h|exact Ab (ha _)|exact ha _
 exact h
theorem CV {x f t:Int} (hx:0<=x/\x<=1000000000) (hf:0<=f/\f<=1000000000) (ht:1<=t/\t<=1000):Ej x f t=(decide (f<=x) && decide (x<=f+t - 1)):=by
 rw [Ej]
 by_cases h:f<=x
 ·rw [decide_eq_true h,L4,L4]
  simp only [IntKind.wrap_u64]
  congr 1
  apply propext
  constructor<;>intro _<;>omega
 rw [decide_eq_false h,Mm,Mm]
theorem Bq {l:List Int} {f t:Int} (hl:∀ x∈l,0<=x/\x<=1000000000) (hf:0<=f/\f<=1000000000) (ht:1<=t/\t<=1000):Ek l f t=cntF l f (f+t - 1):=by
 rw [Ek,cntF]
 congr 1
 exact L5 fun x hx=>CV (hl x hx) hf ht
theorem oF {l:List Int} {t s:Int}:∀ {m:List Int} {j k:Nat},j<=k->(∀ f∈m,Ek l f s<=Ek l f t)->m6 l s j m<=m6 l t k m
 |[],j,k,h,_=>h
 |f::r,j,k,h,hm=>by
  rw [m6,m6]
  exact oF (by have:=hm f zP;omega) fun g hg=>hm g (by simp [hg])
theorem CX {l:List Int} {f g k:Int} (h:g<=k):cntF l f g<=cntF l f k:=by
 rw [cntF,cntF]
 refine List.Sublist.length_le ?_
 rw [show (l.filter fun x=>decide (f<=x) && decide (x<=g))=(l.filter fun x=>decide (f<=x) && decide (x<=k)).filter fun x=>decide (x<=g) by
  rw [List.filter_filter]
  refine L5 fun x _=>?_
  by_cases h1:x<=g
  ·simp [h1,show x<=k by omega]
  simp [h1]]
 exact LW
theorem AnsI.big {l:List Int} {e:EndD} (h:AnsI l e):∀ x∈l,0<=x/\x<=1000000000:=fun x hx=>by have:=h.t x hx;have:=h.y.now;omega
theorem AnsI.one {l:List Int} {e:EndD} (h:AnsI l e) {t:Int} (ht:1<=t/\t<=1000):Bb l 1<=Bb l t:=by
 rw [Bb,Bb]
 by_cases hl:l.length<=300
 ·rw [if_pos ⟨by decide,hl⟩,if_pos ⟨by simp only [co,KZ,decide_eq_true_eq];exact ht,hl⟩]
  refine oF (Ma _) fun f hf=>?_
  rw [Bq h.big (h.big f hf) zO,Bq h.big (h.big f hf) ht]
  exact CX zO
 rw [if_neg (fun hc=>hl hc.2)];exact Nat.zero_le _
theorem YoungE.fresh {e:EndD} (h:YoungE e):fresh e=true:=by
 rw [Go.Proofs.YtdiiopjaebnmfaaGreat.fresh,Lm]
 intro y hy
 have h1:=h.halfs y hy
 have h2:=h.now
 rw [Hc,decide_eq_false zO,Bool.false_or,Lh,decide_eq_false_iff_not]
 simp only [IntKind.wrap_u64]
 omega
def N9 (n:Int):Prop:=0<=n/\n<=1000000000
theorem EZ {n:Int}:kj n=true↔N9 n:=by simp [kj,N9]
theorem cm {n a b:Int}:co n a b=true↔a<=n/\n<=b:=by simp [co]
def RN (r:RoadD):Prop:=N9 r.own/\N9 r.far/\N9 r.port
theorem ks {r:RoadD}:lZ r=true↔RN r:=by simp [lZ,RN,EZ,and_assoc]
theorem cg {a b:RoadD}:dg a b=true↔a=b:=⟨ng,fun h=>by subst h;simp [dg]⟩
theorem ue {α:Type} {p:α->Bool}:∀ {l:List α} {k j:Nat},cX p k l=((k+j:Nat):Int)↔∃ h:j < l.length,p l[j]=true/\∀ (i:Nat) (hi:i < j),p (l[i]' zO)=false
 |[],k,j=>by
  rw [cX]
  constructor
  ·intro h;omega
  rintro⟨h,_⟩;simp at h
 |a::r,k,j=>by
  rw [cX]
  by_cases hp:p a=true
  ·rw [if_pos hp]
   constructor
   ·intro h
    obtain rfl:j=0:=zO
    exact⟨zP,hp,fun i hi=>by omega⟩
   rintro⟨h,h1,h2⟩
   rcases j with _|j
   ·simp
   have:=h2 0 zO
   simp only [LO] at this
   rw [hp] at this
   cases this
  rw [if_neg hp]
  have hp':p a=false:=by simpa using hp
  rcases j with _|j
  ·constructor
   ·intro h
    rcases l5 (p:=p) (l:=r) (k:=k+1) with h'|h'<;>omega
   rintro⟨h,h1,_⟩
   simp only [LO] at h1
   exact absurd h1 hp
  rw [show k+(j+1)=(k+1)+j by omega,ue (l:=r)]
  constructor
  ·rintro⟨h,h1,h2⟩
   refine⟨by simp;omega,by simpa using h1,fun i hi=>?_⟩
   rcases i with _|i
   ·simpa using hp'
   simpa using h2 i zO
  rintro⟨h,h1,h2⟩
  refine⟨by simpa using h,by simpa using h1,fun i hi=>?_⟩
  have:=h2 (i+1) zO
  simpa using this
theorem fC {α:Type} {p:α->Bool} {l:List α} {j:Nat}:gc p l=(j:Int)↔∃ h:j < l.length,p l[j]=true/\∀ (i:Nat) (hi:i < j),p (l[i]' zO)=false:=by
 have:=ue (p:=p) (l:=l) (k:=0) (j:=j)
 rw [Nat.zero_add] at this
 exact this
theorem uf {α:Type} {p:α->Bool}:∀ {l:List α} {k:Nat},cX p k l < 0↔∀ x∈l,p x=false
 |[],k=>by simp [cX]
 |a::r,k=>by
  rw [cX]
  by_cases hp:p a=true
  ·rw [if_pos hp]
   constructor
   ·intro h;omega
   intro h;rw [h a zP] at hp;cases hp
  rw [if_neg hp,uf (l:=r)]
  constructor
  ·intro h x hx
   rcases Lf.1 hx with rfl|hx
   ·simpa using hp
   exact h x hx
  intro h x hx;exact h x (K9 _ hx)
theorem nG {α:Type} {p:α->Bool} {l:List α}:gc p l < 0↔∀ x∈l,p x=false:=uf
theorem kt {α:Type} {p:α->Bool} {l:List α} (h:0<=gc p l):∃ n:Nat,gc p l=(n:Int):=⟨(gc p l).toNat,zO⟩
theorem ku {α:Type} (l:List α) (n:Nat):(l.take n++l.drop (n+1)).Sublist l:=by
 rw [<-List.eraseIdx_eq_take_drop_succ]
 exact List.eraseIdx_sublist ..
def AdR (a b:AddrD):Prop:=a.id < b.id/\¬ a.addr=b.addr
def AdE (a:AddrD):Prop:=(0<=a.id/\a.id<=255)/\1<=a.addr/\a.addr<=65535
structure AdOk (l:List AddrD):Prop where
 len:l.length<=6
 el:∀ a∈l,AdE a
 pw:l.Pairwise AdR
theorem oG {l:List AddrD}:bw l=true↔AdOk l:=by
 simp only [bw,KZ,decide_eq_true_eq]
 constructor
 ·rintro⟨h1,h2⟩
  have he:∀ (j:Nat) (hj:j < l.length),AdE l[j]/\(∀ i,i+1=j->(FF l i).id < l[j].id)/\∀ b∈l.take j,¬ l[j].addr=b.addr:=by
   intro j hj
   have:=fK h2 hj
   simp only [jh,lc hj,KZ,cm,Lw,beq_iff_eq,decide_eq_true_eq,Lm,Lh,beq_eq_false_iff_ne] at this
   obtain⟨⟨⟨a1,a2⟩,a3⟩,a4⟩:=this
   refine⟨⟨a1,a2⟩,fun i hi=>?_,a4⟩
   rcases a3 with a3|a3
   ·omega
   subst hi;simpa using a3
  have hid:∀ (j i:Nat) (hj:j < l.length) (hi:i < j),l[i].id < l[j].id:=by
   intro j
   induction j with
   |zero=>intro i hj hi;omega
   |succ j ih=>
    intro i hj hi
    have h3:=(he (j+1) hj).2.1 j rfl
    rw [lc zO] at h3
    by_cases hij:i=j
    ·subst hij;exact h3
    have:=ih i zO zO;omega
  refine⟨zO,fun a ha=>?_,?_⟩
  ·obtain⟨j,hj,rfl⟩:=K6 ha
   exact (he j hj).1
  rw [K5]
  intro i j hi hj hij
  refine⟨hid j i hj hij,fun hc=>?_⟩
  refine (he j hj).2.2 l[i] ?_ hc.symm
  rw [Lq]
  exact⟨i,zO,rfl⟩
 rintro⟨h1,h2,h3⟩
 rw [K5] at h3
 refine⟨zO,dm fun j hj=>?_⟩
 have hm:=h2 l[j] (K0 hj)
 simp only [jh,lc hj,KZ,cm,Lw,beq_iff_eq,decide_eq_true_eq,Lm,Lh,beq_eq_false_iff_ne]
 refine⟨⟨⟨hm.1,hm.2⟩,?_⟩,fun b hb=>?_⟩
 ·rcases Mi j with h0|h0
  ·exact .inl h0
  refine .inr ?_
  rw [lc zO]
  exact (h3 (j - 1) j zO hj zO).1
 rw [Lq] at hb
 obtain⟨i,hi,rfl⟩:=hb
 exact fun hc=>(h3 i j zO hj zO).2 hc.symm
theorem AdOk.sub {l m:List AddrD} (h:AdOk l) (s:m.Sublist l):AdOk m:=⟨Lo s.length_le h.len,fun a ha=>h.el a (s.subset ha),h.pw.sublist s⟩
theorem AdOk.drop {l:List AddrD} {n:Int} (h:AdOk l):AdOk (bA l n).1:=by
 rw [bA];split
 ·exact h
 exact h.sub (ku l _)
theorem AdOk.put {l:List AddrD} {a:AddrD} (h:AdOk l):AdOk (aA l a).1:=by
 rw [aA];split
 ·rename_i hk;exact oG.1 hk
 exact h
theorem AdOk.pt {l m:List AddrD} (h:AdOk l) (hl:m.length=l.length) (hp:∀ (i:Nat) (h1:i < m.length) (h2:i < l.length),m[i].id=l[i].id/\m[i].addr=l[i].addr):AdOk m:=by
 refine⟨by rw [hl];exact h.len,fun a ha=>?_,?_⟩
 ·obtain⟨j,hj,rfl⟩:=K6 ha
  obtain⟨e1,e2⟩:=hp j hj zO
  have:=h.el l[j] (K0 _)
  rw [AdE,e1,e2];exact this
 have hq:=h.pw
 rw [K5] at hq⊢
 intro i j hi hj hij
 obtain⟨e1,e2⟩:=hp i hi zO
 obtain⟨f1,f2⟩:=hp j hj zO
 have:=hq i j zO zO hij
 rw [AdR,e1,e2,f1,f2];exact this
theorem fd {l:List AddrD} {n:Int} {a:AddrD} (h:a∈(bA l n).1):a∈l:=by
 rw [bA] at h;split at h
 ·exact h
 exact (ku l _).subset h
theorem dO {l:List AddrD} {a b:AddrD} (h:b∈(aA l a).1):b=a\/b∈l:=by
 rw [aA] at h;split at h
 ·dsimp only at h
  rw [bF] at h;split at h
  ·rcases K7 h with h|h
   ·exact .inr h
   exact .inl h
  rcases K2.1 h with h|h
  ·rcases K2.1 h with h|h
   ·exact .inr (LB h)
   exact .inl (K1.1 h)
  exact .inr (LS h)
 exact .inr h
structure IdOk (l:List Int) (t:List AddrD):Prop where
 pw:l.Pairwise fun a b=>a < b
 el:∀ n∈l,(0<=n/\n<=255)/\∀ a∈t,¬ a.id=n
theorem hZ {l:List Int} {n:Nat} (h:n < l.length):l.getD n 0=l[n]:=by rw [LF,LH h];rfl
theorem lr {l:List AddrD} {n:Int}:aB l n < 0↔∀ a∈l,¬ a.id=n:=by
 rw [aB,nG]
 simp
theorem CY {l:List Int} {t:List AddrD}:n7 l t=true↔IdOk l t:=by
 simp only [n7,KZ]
 constructor
 ·rintro⟨h1,h2⟩
  have hc:∀ (j:Nat) (hj:j+1 < l.length),l[j] < l[j+1]:=by
   intro j hj
   have:=fK h1 hj
   simp only [dp,Lw,beq_iff_eq,decide_eq_true_eq,LY,hZ hj,hZ (show j < l.length by omega)] at this
   rcases this with h|h
   ·omega
   exact h
  have hid:∀ (j i:Nat) (hj:j < l.length) (hi:i < j),l[i] < l[j]:=by
   intro j
   induction j with
   |zero=>intro i hj hi;omega
   |succ j ih=>
    intro i hj hi
    have h3:=hc j hj
    by_cases hij:i=j
    ·subst hij;exact h3
    have:=ih i zO zO;omega
  refine⟨?_,fun n hn=>?_⟩
  ·rw [K5]
   intro i j hi hj hij
   exact hid j i hj hij
  obtain⟨j,hj,rfl⟩:=K6 hn
  have:=fK h2 hj
  simp only [gG,KZ,cm,decide_eq_true_eq,hZ hj] at this
  exact⟨this.1,lr.1 this.2⟩
 rintro⟨h1,h2⟩
 rw [K5] at h1
 refine⟨dm fun j hj=>?_,dm fun j hj=>?_⟩
 ·simp only [dp,Lw,beq_iff_eq,decide_eq_true_eq]
  rcases Mi j with h0|h0
  ·exact .inl h0
  refine .inr ?_
  rw [hZ hj,hZ (show j - 1 < l.length by omega)]
  exact h1 (j - 1) j zO hj zO
 have:=h2 l[j] (K0 hj)
 simp only [gG,KZ,cm,decide_eq_true_eq,hZ hj]
 exact⟨this.1,lr.2 this.2⟩
theorem Br {α:Type} {p:α->Bool}:∀ (l:List α),l.take (l.takeWhile p).length=l.takeWhile p
 |[]=>rfl
 |a::r=>by
  rw [Ly];split
  ·rw [Lp,List.take_succ_cons,Br r]
  rfl
theorem Bs {α:Type} {p:α->Bool}:∀ (l:List α),l.drop (l.takeWhile p).length=l.dropWhile p
 |[]=>rfl
 |a::r=>by
  rw [Ly,Mg];split
  ·rename_i h
   rw [Lp,List.drop_succ_cons,Bs r]
  rfl
theorem E0 {α:Type} {p:α->Bool}:∀ (l:List α),∀ x∈l.takeWhile p,p x=true
 |[],x,h=>by simp at h
 |a::r,x,h=>by
  rw [Ly] at h;split at h
  ·rename_i hp
   rcases Lf.1 h with rfl|h
   ·exact hp
   exact E0 r x h
  simp at h
theorem Bt {α:Type} {p:α->Bool}:∀ {l r:List α} {y:α},l.dropWhile p=y::r->p y=false
 |[],r,y,h=>by simp at h
 |a::l,r,y,h=>by
  rw [Mg] at h;split at h
  ·exact Bt h
  rename_i hp
  injection h with h1 _
  rw [<-h1];simpa using hp
theorem JG {l:List Int} {n:Int}:∀ x∈l.take (iv l n),x < n:=by
 intro x hx
 rw [iv,Br] at hx
 simpa using E0 l x hx
theorem JH {l:List Int} {n:Int} (hp:l.Pairwise fun a b=>a < b):∀ x∈l.drop (iv l n),n<=x:=by
 have e:l.drop (iv l n)=l.dropWhile fun a=>decide (a < n):=by rw [iv,Bs]
 have hq:(l.drop (iv l n)).Pairwise fun a b=>a < b:=hp.sublist (L6 _ _)
 rw [e] at hq⊢
 cases hd:l.dropWhile fun a=>decide (a < n) with
 |nil=>simp
 |cons y r=>
  rw [hd] at hq
  have hy:¬ y < n:=by simpa using Bt hd
  intro x hx
  rcases Lf.1 hx with rfl|hx
  ·omega
  have:=(LI.1 hq).1 x hx;omega
theorem E2 {l:List Int} {n x:Int} (h:x∈gJ l n):x=n\/x∈l:=by
 rw [gJ] at h;split at h
 ·exact .inr h
 rcases K2.1 h with h|h
 ·rcases K2.1 h with h|h
  ·exact .inr (LB h)
  exact .inl (K1.1 h)
 exact .inr (LS h)
theorem xS {l:List Int} {n:Int}:n∈gJ l n:=by
 rw [gJ];split
 ·rename_i h
  obtain⟨h1,h2⟩:=h
  rw [hZ h1] at h2
  rw [<-h2];exact K0 _
 simp
theorem xT {l:List Int} {n x:Int} (h:x∈l):x∈gJ l n:=by
 rw [gJ];split
 ·exact h
 have:=LA (iv l n) l
 rw [<-this] at h
 rcases K2.1 h with h|h
 ·exact K_ _ (K_ _ h)
 exact LR _ h
theorem GI {l:List Int} {n:Int} (hp:l.Pairwise fun a b=>a < b):(gJ l n).Pairwise fun a b=>a < b:=by
 rw [gJ];split
 ·exact hp
 rename_i hn
 have h1:=JG (l:=l) (n:=n)
 have h2:=JH (n:=n) hp
 have h3:∀ x∈l.drop (iv l n),n < x:=by
  intro x hx
  have hx':=h2 x hx
  by_cases he:x=n
  ·exfalso
   have hq:(l.drop (iv l n)).Pairwise fun a b=>a < b:=hp.sublist (L6 _ _)
   by_cases hl:iv l n < l.length
   ·rw [List.drop_eq_getElem_cons hl] at hx hq h2
    rcases Lf.1 hx with hx|hx
    ·exact hn ⟨hl,by rw [hZ hl,<-hx,he]⟩
    have:=(LI.1 hq).1 x hx
    have:=h2 l[iv l n] (Lg ..)
    omega
   rw [List.drop_eq_nil_of_le zO] at hx;simp at hx
  omega
 rw [Ln,Ln]
 refine⟨⟨hp.sublist (List.take_sublist _ _),Ld ..,fun a ha b hb=>?_⟩,hp.sublist (L6 _ _),fun a ha b hb=>?_⟩
 ·rw [K1.1 hb];exact h1 a ha
 rcases K2.1 ha with ha|ha
 ·have:=h1 a ha;have:=h3 b hb;omega
 rw [K1.1 ha];exact h3 b hb
theorem IdOk.drop {l:List Int} {t:List AddrD} {n:Int} (h:IdOk l t) (ht:AdOk t) (hn:∃ a∈t,a.id=n):IdOk (gJ l n) (bA t n).1:=by
 obtain⟨q,hq,hqn⟩:=hn
 refine⟨GI h.pw,fun x hx=>?_⟩
 rcases E2 hx with rfl|hx
 ·refine⟨by have:=(ht.el q hq).1;omega,fun a ha=>?_⟩
  have h0:¬ aB t x < 0:=fun hc=>lr.1 hc q hq hqn
  rw [bA,if_neg h0] at ha
  obtain⟨k,hk⟩:=kt (show 0<=gc (fun a=>a.id == x) t by rw [aB] at h0;omega)
  obtain⟨hkl,hk1,_⟩:=fC.1 hk
  rw [aB,hk] at ha
  dsimp only at ha
  rw [K4] at ha
  have hpw:=ht.pw
  rw [K5] at hpw
  simp only [beq_iff_eq] at hk1
  rcases K2.1 ha with ha|ha
  ·rw [Lq] at ha
   obtain⟨i,hi,rfl⟩:=ha
   have:=(hpw i k zO hkl zO).1
   omega
  rw [LG] at ha
  obtain⟨i,hi,rfl⟩:=ha
  have:=(hpw k (k+1+i) hkl zO zO).1
  omega
 have:=h.el x hx
 exact⟨this.1,fun a ha=>this.2 a (fd ha)⟩
theorem IdOk.put {l:List Int} {t:List AddrD} {a:AddrD} (h:IdOk l t) (hn:¬ a.id∈l):IdOk l (aA t a).1:=by
 refine⟨h.pw,fun x hx=>?_⟩
 have:=h.el x hx
 refine⟨this.1,fun b hb=>?_⟩
 rcases dO hb with rfl|hb
 ·exact fun hc=>hn (hc▸hx)
 exact this.2 b hb
def HaE (h:HalfD):Prop:=RN h.road/\N9 h.theirs/\N9 h.mine/\N9 h.give/\N9 h.take/\N9 h.till
structure HaOk (l:List HalfD):Prop where
 len:l.length<=4
 el:∀ h∈l,HaE h
 pw:l.Pairwise fun a b=>¬ a.road=b.road
theorem jV {l:List HalfD}:cB l=true↔HaOk l:=by
 simp only [cB,KZ,decide_eq_true_eq]
 have hat:∀ (j:Nat) (hj:j < l.length),aJ l l[j].road=(j:Int)↔∀ (i:Nat) (hi:i < j),¬ l[i].road=l[j].road:=by
  intro j hj
  rw [aJ,fC]
  constructor
  ·rintro⟨_,_,h⟩ i hi
   have:=h i hi
   intro hc
   rw [hc,cg.2 rfl] at this
   cases this
  intro h
  exact⟨hj,cg.2 rfl,fun i hi=>by
   cases hq:dg l[i].road l[j].road with
   |false=>rfl
   |true=>exact absurd (cg.1 hq) (h i hi)⟩
 have hel:∀ (j:Nat) (hj:j < l.length),gS l j=true↔HaE l[j]/\aJ l l[j].road=(j:Int):=by
  intro j hj
  simp only [gS,vb hj,KZ,ks,LP,LU,EZ,beq_iff_eq,and_true,HaE]
 constructor
 ·rintro⟨h1,h2⟩
  have hu:=fun (j:Nat) (hj:j < l.length)=>(hel j hj).1 (fK h2 hj)
  refine⟨zO,fun h hh=>?_,?_⟩
  ·obtain⟨j,hj,rfl⟩:=K6 hh
   exact (hu j hj).1
  rw [K5]
  intro i j hi hj hij
  exact (hat j hj).1 (hu j hj).2 i hij
 rintro⟨h1,h2,h3⟩
 rw [K5] at h3
 exact⟨zO,dm fun j hj=>(hel j hj).2 ⟨h2 _ (K0 hj),(hat j hj).2 fun i hi=>h3 i j zO hj hi⟩⟩
theorem HaOk.sub {l m:List HalfD} (h:HaOk l) (s:m.Sublist l):HaOk m:=⟨Lo s.length_le h.len,fun a ha=>h.el a (s.subset ha),h.pw.sublist s⟩
theorem HaOk.drop {l:List HalfD} {r:RoadD} (h:HaOk l):HaOk (aS l r):=by
 rw [aS];split
 ·exact h
 exact h.sub (ku l _)
theorem HaOk.young {l:List HalfD} {n:Int} (h:HaOk l):HaOk (cc l n):=h.sub LW
def SuE (s:SubD):Prop:=(1<=s.state/\s.state<=4)/\RN s.road/\N9 s.mine/\N9 s.theirs/\N9 s.give/\N9 s.take/\N9 s.tries
structure SuOk (l:List SubD):Prop where
 el:∀ s∈l,SuE s
 pw:l.Pairwise fun a b=>a.state=4\/b.state=4\/¬ a.road=b.road
theorem nI {l:List SubD} {r:RoadD}:aN l r < 0↔∀ s∈l,s.state=4\/¬ s.road=r:=by
 rw [aN,nG]
 refine forall_congr' fun s=>forall_congr' fun hs=>?_
 by_cases h1:s.state=4
 ·simp [h1]
 by_cases h2:s.road=r
 ·subst h2;simp [h1,cg]
 have:dg s.road r=false:=by
  cases hq:dg s.road r with
  |false=>rfl
  |true=>exact absurd (cg.1 hq) h2
 simp [this,h2]
theorem kv {l:List SubD} {r:RoadD} {n:Nat}:aN l r=(n:Int)↔∃ h:n < l.length,¬ l[n].state=4/\l[n].road=r/\∀ (i:Nat) (hi:i < n),l[i].state=4\/¬ l[i].road=r:=by
 rw [aN,fC]
 refine exists_congr fun h=>?_
 have hp:∀ s:SubD,(s.state != 4 && dg s.road r)=false↔s.state=4\/¬ s.road=r:=by
  intro s
  by_cases h1:s.state=4
  ·simp [h1]
  cases hq:dg s.road r with
  |false=>simp [h1,show ¬ s.road=r from fun hc=>by rw [cg.2 hc] at hq;cases hq]
  |true=>simp [h1,cg.1 hq]
 simp only [hp]
 rw [<-and_assoc]
 refine and_congr_left fun _=>?_
 simp [cg]
theorem Ad {l:List SubD}:d_ (dh l) l.length=true↔SuOk l:=by
 have hel:∀ (j:Nat) (hj:j < l.length),dh l j=true↔SuE l[j]/\(l[j].state=4\/aN l l[j].road=(j:Int)):=by
  intro j hj
  simp only [dh,br hj,KZ,cm,ks,LP,LU,EZ,beq_iff_eq,and_true,Lw,SuE]
  constructor
  ·rintro⟨⟨⟨a,b⟩,c⟩,d⟩;exact⟨⟨a,b,c⟩,d⟩
  rintro⟨⟨a,b,c⟩,d⟩;exact⟨⟨⟨a,b⟩,c⟩,d⟩
 constructor
 ·intro h2
  have hu:=fun (j:Nat) (hj:j < l.length)=>(hel j hj).1 (fK h2 hj)
  refine⟨fun s hs=>?_,?_⟩
  ·obtain⟨j,hj,rfl⟩:=K6 hs
   exact (hu j hj).1
  rw [K5]
  intro i j hi hj hij
  rcases (hu j hj).2 with h|h
  ·exact .inr (.inl h)
  obtain⟨_,_,_,h⟩:=kv.1 h
  rcases h i hij with h|h
  ·exact .inl h
  exact .inr (.inr h)
 rintro⟨h2,h3⟩
 rw [K5] at h3
 refine dm fun j hj=>(hel j hj).2 ⟨h2 _ (K0 hj),?_⟩
 by_cases h4:l[j].state=4
 ·exact .inl h4
 refine .inr (kv.2 ⟨hj,h4,rfl,fun i hi=>?_⟩)
 rcases h3 i j zO hj hi with h|h|h
 ·exact .inl h
 ·exact absurd h h4
 exact .inr h
theorem SuOk.pt {l m:List SubD} (h:SuOk l) (hl:m.length=l.length) (hp:∀ (i:Nat) (h1:i < m.length) (h2:i < l.length),SuE m[i]/\m[i].road=l[i].road/\(l[i].state=4->m[i].state=4)):SuOk m:=by
 refine⟨fun s hs=>?_,?_⟩
 ·obtain⟨j,hj,rfl⟩:=K6 hs
  exact (hp j hj zO).1
 have hq:=h.pw
 rw [K5] at hq⊢
 intro i j hi hj hij
 obtain⟨_,e1,e2⟩:=hp i hi zO
 obtain⟨_,f1,f2⟩:=hp j hj zO
 rcases hq i j zO zO hij with h|h|h
 ·exact .inl (e2 h)
 ·exact .inr (.inl (f2 h))
 rw [e1,f1];exact .inr (.inr h)
theorem SuOk.set {l:List SubD} {n:Nat} {s:SubD} (h:SuOk l) (hn:n < l.length) (hs:SuE s) (hr:s.road=l[n].road) (h4:l[n].state=4->s.state=4):SuOk (l.set n s):=by
 refine h.pt zP fun i h1 h2=>?_
 rw [Lb]
 split
 ·rename_i e;subst e;exact⟨hs,hr,h4⟩
 exact⟨h.el _ (K0 h2),rfl,fun h=>h⟩
theorem SuOk.map {l:List SubD} {f:SubD->SubD} (h:SuOk l) (hf:∀ s∈l,SuE (f s)/\(f s).road=s.road/\(s.state=4->(f s).state=4)):SuOk (l.map f):=
 h.pt zP fun i h1 h2=>by rw [L7];exact hf _ (K0 h2)
theorem SuOk.app {l:List SubD} {s:SubD} (h:SuOk l) (hs:SuE s) (hr:∀ x∈l,x.state=4\/¬ x.road=s.road):SuOk (l++[s]):=by
 refine⟨fun x hx=>?_,?_⟩
 ·rcases K2.1 hx with hx|hx
  ·exact h.el x hx
  rw [K1.1 hx];exact hs
 rw [Ln]
 refine⟨h.pw,Ld ..,fun a ha b hb=>?_⟩
 rw [K1.1 hb]
 rcases hr a ha with h|h
 ·exact .inl h
 exact .inr (.inr h)
theorem SuE.st {s:SubD} {n:Int} (h:SuE s) (hn:1<=n/\n<=4):SuE { s with state:=n }:=⟨hn,h.2⟩
theorem SuOk.st4 {l:List SubD} {n:Nat} (h:SuOk l) (hn:n < l.length):SuOk (ba l n 4):=by
 rw [cZ hn]
 exact h.set hn ((h.el _ (K0 hn)).st zO) rfl fun _=>rfl
structure OkE (e:EndD):Prop where
 side:1<=e.side/\e.side<=2
 state:0<=e.state/\e.state<=2
 pol:polOk e.policy=true
 own:AdOk e.own
 far:AdOk e.far
 halfs:HaOk e.halfs
 bucket:bucketOk e.bucket=true
 out:outOk e.out=true
 inp:piecesOk e.inp=true
 done:IdOk e.done e.own
 over:IdOk e.over e.far
 subs8:e.subs.length<=8
 nums:N9 e.key/\N9 e.peer/\N9 e.draw/\N9 e.now/\N9 e.pick
 subs:SuOk e.subs
theorem cU {e:EndD}:ah e=true↔OkE e:=by
 simp only [ah,KZ,cm,oG,jV,CY,Ad,LP,LU,EZ,decide_eq_true_eq,and_true]
 constructor
 ·rintro⟨⟨⟨⟨⟨⟨⟨⟨⟨⟨⟨⟨⟨a1,a2⟩,a3⟩,a4⟩,a5⟩,a6⟩,a7⟩,a8⟩,a9⟩,a10⟩,a11⟩,a12⟩,a13⟩,a14⟩
  exact⟨a1,a2,a3,a4,a5,a6,a7,a8,a9,a10,a11,zO,a13,a14⟩
 rintro⟨a1,a2,a3,a4,a5,a6,a7,a8,a9,a10,a11,a12,a13,a14⟩
 exact⟨⟨⟨⟨⟨⟨⟨⟨⟨⟨⟨⟨⟨a1,a2⟩,a3⟩,a4⟩,a5⟩,a6⟩,a7⟩,a8⟩,a9⟩,a10⟩,a11⟩,zO⟩,a13⟩,a14⟩
theorem ja {x:LetterD} (h:di x=true):N9 x.frm/\N9 x.to/\N9 x.port/\N9 x.nonce/\N9 x.give/\N9 x.sgn/\N9 x.id/\N9 x.addr/\N9 x.pos:=by
 simp only [di,co,ew,LP,LU,kj,KZ,decide_eq_true_eq,Bool.and_true] at h
 simp only [N9]
 omega
theorem HaOk.pt {l m:List HalfD} (h:HaOk l) (hl:m.length=l.length) (hp:∀ (i:Nat) (h1:i < m.length) (h2:i < l.length),HaE m[i]/\m[i].road=l[i].road):HaOk m:=by
 refine⟨by rw [hl];exact h.len,fun a ha=>?_,?_⟩
 ·obtain⟨j,hj,rfl⟩:=K6 ha
  exact (hp j hj zO).1
 have hq:=h.pw
 rw [K5] at hq⊢
 intro i j hi hj hij
 rw [(hp i hi zO).2,(hp j hj zO).2]
 exact hq i j zO zO hij
theorem IdOk.pt {l:List Int} {t u:List AddrD} (h:IdOk l t) (hu:∀ a∈u,∃ b∈t,b.id=a.id):IdOk l u:=⟨h.pw,fun n hn=>⟨(h.el n hn).1,fun a ha=>by
 obtain⟨b,hb,e⟩:=hu a ha
 rw [<-e];exact (h.el n hn).2 b hb⟩⟩
theorem rS {b:BucketD} (h:bucketOk b=true):bucketOk (bf b).1=true:=by
 rw [bf];split
 ·rename_i hc
  simp only [bucketOk,KZ,cm] at h⊢
  have:=hc.2
  omega
 exact h
theorem ug {b:BucketD} (h:bucketOk b=true):bucketOk (cJ b)=true:=by
 rw [cJ,if_pos h]
 simp only [bucketOk,KZ,cm] at h⊢
 omega
theorem kw {o:OutD}:outOk o=true↔FineO o:=by
 refine⟨bQ,fun h=>?_⟩
 obtain⟨h1,h2,h3,h4,h5⟩:=h
 simp only [outOk,kj,co,KZ,decide_eq_true_eq]
 rw [yD zO]
 omega
theorem Bu {o:OutD} {n:Int} (h:outOk o=true) (hn:N9 n):outOk (came o n)=true:=by
 have F:=bQ h
 obtain⟨h1,h2,h3,h4,h5⟩:=F
 rw [came];split
 ·rename_i hc
  obtain⟨_,c1,c2⟩:=hc
  rw [yD zO] at c2
  rw [kw]
  refine⟨hn,h2,?_,?_⟩
  ·simp only [Lc];omega
  simp only [Lc];split<;>omega
 exact h
theorem rT {l:List Int} {n:Int}:oN l n=true↔n∈l:=by simp [oN]
theorem E3 {l:List Int} {n:Int}:oN l n=false↔¬ n∈l:=by rw [<-rT];simp
theorem iA {l:List SubD} {r:RoadD} (h:0<=aN l r):∃ n:Nat,aN l r=(n:Int)/\∃ hn:n < l.length,¬ l[n].state=4/\l[n].road=r/\∀ (i:Nat) (hi:i < n),l[i].state=4\/¬ l[i].road=r:=by
 obtain⟨n,hn⟩:=kt h
 exact⟨n,hn,kv.1 hn⟩
theorem f7 {l:List HalfD} {r:RoadD} (h:0<=aJ l r):∃ n:Nat,aJ l r=(n:Int)/\∃ hn:n < l.length,l[n].road=r:=by
 obtain⟨n,hn⟩:=kt h
 obtain⟨h1,h2,_⟩:=fC.1 hn
 exact⟨n,hn,h1,cg.1 h2⟩
theorem jW {l:List AddrD} {k:Int} (h:0<=aB l k):∃ n:Nat,aB l k=(n:Int)/\∃ hn:n < l.length,l[n].id=k:=by
 obtain⟨n,hn⟩:=kt h
 obtain⟨h1,h2,_⟩:=fC.1 hn
 exact⟨n,hn,h1,by simpa using h2⟩
theorem vI {e:EndD} {x:LetterD} (h:0<=gh e x):∃ n:Nat,gh e x=(n:Int)/\cY e x=(n:Int)/\∃ hn:n < e.subs.length,e.subs[n].state=3/\e.subs[n].take=x.sgn/\e.subs[n].road=roadOf x/\di x=true:=by
 rcases gW e x with h0|⟨n,h1,h2,h3,_,h5⟩
 ·omega
 refine⟨n,h1,h2,h3,?_⟩
 rw [cY] at h2
 split at h2
 ·omega
 rename_i h6
 split at h2
 ·rename_i h7
  obtain⟨m,hm,hmn,_,hr,_⟩:=iA (show 0<=aN e.subs (roadOf x) by omega)
  have:m=n:=zO
  subst this
  rw [hm,K4,br hmn] at h7
  exact⟨h7.1,h7.2,hr,h5⟩
 omega
theorem uh {x:LetterD} (h:di x=true):RN (roadOf x):=by
 obtain⟨h1,h2,h3,_⟩:=ja h
 exact⟨h2,h1,h3⟩
theorem pn {e:EndD} {x:LetterD} (h:OkE e) (hst:e.state=2):OkE (hear e x).1/\(hear e x).1.state=2:=by
 refine jN (Q:=fun r=>OkE r.1/\r.1.state=2) ⟨h,hst⟩ ?_ ?_ ?_ ?_ ?_ ?_ ?_ ?_ ?_ ?_ ?_ ?_
 ·unfold ay;split
  ·rename_i hk
   simp only [fF,KZ,decide_eq_true_eq] at hk
   omega
  exact⟨h,hst⟩
 ·unfold aT;split
  ·rename_i hk
   simp only [ib,KZ,decide_eq_true_eq] at hk
   omega
  exact⟨h,hst⟩
 ·unfold bs;split
  ·rename_i hk
   simp only [ji,KZ,decide_eq_true_eq,cm] at hk
   obtain⟨⟨⟨⟨⟨⟨⟨⟨⟨k1,k2⟩,k3⟩,k4⟩,k5⟩,k6⟩,k7⟩,k8⟩,k9⟩,k10⟩:=hk
   have hd:N9 (e.draw+4):=⟨zO,zO⟩
   split
   ·rename_i hs
    simp only [dq,KZ,decide_eq_true_eq] at hs
    obtain⟨n,e1,hn,_⟩:=f7 hs.1.1
    refine⟨⟨h.side,h.state,h.pol,h.own,h.far,?_,rS h.bucket,h.out,h.inp,h.done,h.over,h.subs8,h.nums,h.subs⟩,hst⟩
    dsimp only
    rw [ld,e1,K4,df hn]
    refine h.halfs.pt zP fun i h1 h2=>?_
    rw [Lb]
    have hel:=h.halfs.el _ (K0 h2)
    split
    ·rename_i e;subst e
     exact⟨⟨hel.1,hel.2.1,hel.2.2.1,hel.2.2.2.1,hel.2.2.2.2.1,by have:=h.nums.2.2.2.1;simp only [N9] at this⊢;omega⟩,rfl⟩
    exact⟨hel,rfl⟩
   refine⟨⟨h.side,h.state,h.pol,h.own,h.far,?_,rS h.bucket,h.out,h.inp,h.done,h.over,h.subs8,⟨h.nums.1,h.nums.2.1,hd,h.nums.2.2.2⟩,h.subs⟩,hst⟩
   dsimp only
   rw [aF];split
   ·rename_i hh;exact jV.1 hh
   exact h.halfs
  exact⟨h,hst⟩
 ·unfold aC;split
  ·rename_i hk
   simp only [l_,KZ,decide_eq_true_eq] at hk
   obtain⟨⟨⟨⟨⟨k1,k2⟩,k3⟩,k4⟩,k5⟩,k6⟩:=hk
   obtain⟨n,e1,hn,_,_,_⟩:=iA k4
   rw [e1,K4,br hn] at k5
   obtain⟨_,_,_,x1,x2,_⟩:=ja k2
   have hel:=h.subs.el _ (K0 hn)
   refine⟨⟨h.side,h.state,h.pol,h.own,h.far,h.halfs,h.bucket,h.out,h.inp,h.done,h.over,by dsimp only;rw [La];exact h.subs8,h.nums,?_⟩,hst⟩
   dsimp only
   rw [e1,K4,br hn]
   exact h.subs.set hn ⟨by simp [de],hel.2.1,hel.2.2.1,x1,x2,hel.2.2.2.2.2.1,by simp [de,N9]⟩ rfl fun h4=>by omega
  exact⟨h,hst⟩
 ·unfold ao;split
  ·rename_i hk
   simp only [kB,KZ,decide_eq_true_eq] at hk
   split
   ·rename_i ha
    simp only [oe,KZ,decide_eq_true_eq] at ha
    obtain⟨i,e2,hi,_⟩:=f7 ha.1.1
    have hel:=h.halfs.el _ (K0 hi)
    have hsu:SuE (dM (roadOf x) (ld e x)):=by
     rw [ld,e2,K4,df hi]
     exact⟨by simp [dM],uh hk.1.2,hel.2.2.1,hel.2.1,hel.2.2.2.1,hel.2.2.2.2.1,by simp [dM,N9]⟩
    refine⟨⟨h.side,h.state,h.pol,h.own,h.far,h.halfs.drop,h.bucket,h.out,h.inp,h.done,h.over,?_,h.nums,?_⟩,hst⟩
    ·dsimp only
     split<;>simp only [ba,K8,La,Li]<;>omega
    dsimp only
    split
    ·rename_i h0
     obtain⟨n,e1,hn,k1,k2,k3⟩:=iA h0
     rw [e1,K4]
     refine (h.subs.st4 hn).app hsu fun y hy=>?_
     rw [cZ hn] at hy
     obtain⟨j,hj,rfl⟩:=K6 hy
     rw [Lb]
     split
     ·exact .inl rfl
     rename_i hnj
     rw [La] at hj
     have hq:=h.subs.pw
     rw [K5] at hq
     have:e.subs[j].state=4\/¬ e.subs[j].road=e.subs[n].road:=by
      rcases LZ hnj with hl|hl
      ·rcases hq n j hn hj hl with q|q|q
       ·exact absurd q k1
       ·exact .inl q
       exact .inr fun hc=>q hc.symm
      rcases hq j n hj hn hl with q|q|q
      ·exact .inl q
      ·exact absurd q k1
      exact .inr q
     rw [k2] at this
     exact this
    rename_i h0
    refine h.subs.app hsu fun y hy=>?_
    exact nI.1 (show aN e.subs (roadOf x) < 0 by omega) y hy
   split<;>exact⟨h,hst⟩
  exact⟨h,hst⟩
 ·unfold aE;dsimp only;split
  ·rename_i hk
   simp only [iu,KZ,decide_eq_true_eq] at hk
   obtain⟨⟨⟨⟨k1,k2⟩,k3⟩,k4⟩,k5⟩:=hk
   obtain⟨n,e1,hn,_,_,_⟩:=iA k3
   rw [e1,K4,br hn] at k4
   refine⟨⟨h.side,h.state,h.pol,h.own,h.far,h.halfs,h.bucket,h.out,h.inp,h.done,h.over,by dsimp only;rw [ba,La];exact h.subs8,h.nums,?_⟩,hst⟩
   dsimp only
   rw [e1,K4,cZ hn]
   exact h.subs.set hn ((h.subs.el _ (K0 hn)).st zO) rfl fun h4=>by omega
  exact⟨h,hst⟩
 ·unfold bH;split
  ·rename_i hk
   simp only [gk,KZ,Lh,E3] at hk
   exact⟨⟨h.side,h.state,h.pol,h.own,h.far.put,h.halfs,h.bucket,h.out,h.inp,h.done,h.over.put hk.1.1.2,h.subs8,h.nums,h.subs⟩,hst⟩
  exact⟨h,hst⟩
 ·unfold bI;dsimp only;split
  ·rename_i hk
   simp only [fw,KZ,decide_eq_true_eq] at hk
   obtain⟨n,e1,hn,_⟩:=jW hk.1.2
   have hp:∀ (i:Nat) (h1:i < (e.own.set (aB e.own x.id).toNat { jK e.own (aB e.own x.id).toNat with told:=true }).length) (h2:i < e.own.length),
     (e.own.set (aB e.own x.id).toNat { jK e.own (aB e.own x.id).toNat with told:=true })[i].id=e.own[i].id/\(e.own.set (aB e.own x.id).toNat { jK e.own (aB e.own x.id).toNat with told:=true })[i].addr=e.own[i].addr:=by
    intro i h1 h2
    rw [Lb]
    split
    ·rename_i he
     rw [e1,K4] at he
     subst he
     rw [e1,K4,eX hn]
     exact⟨rfl,rfl⟩
    exact⟨rfl,rfl⟩
   refine⟨⟨h.side,h.state,h.pol,h.own.pt zP hp,h.far,h.halfs,h.bucket,h.out,h.inp,h.done.pt fun a ha=>?_,h.over,h.subs8,h.nums,h.subs⟩,hst⟩
   obtain⟨j,hj,rfl⟩:=K6 ha
   have hj':=hj
   rw [La] at hj'
   exact⟨e.own[j],K0 hj',(hp j hj hj').1.symm⟩
  exact⟨h,hst⟩
 ·unfold bJ;dsimp only;split
  ·rename_i hk
   simp only [nk,KZ,decide_eq_true_eq] at hk
   obtain⟨n,e1,hn,e2⟩:=jW hk.2
   refine⟨⟨h.side,h.state,h.pol,h.own,h.far.drop,h.halfs,h.bucket,h.out,h.inp,h.done,h.over.drop h.far ⟨_,K0 hn,e2⟩,by dsimp only;rw [Lv];exact h.subs8,h.nums,h.subs.map fun s hs=>?_⟩,hst⟩
   rw [je];split
   ·exact⟨(h.subs.el s hs).st zO,rfl,fun _=>rfl⟩
   exact⟨h.subs.el s hs,rfl,fun h=>h⟩
  exact⟨h,hst⟩
 ·unfold bK;split
  ·refine⟨⟨h.side,h.state,h.pol,h.own,h.far,h.halfs,h.bucket,h.out,?_,h.done,h.over,h.subs8,h.nums,h.subs⟩,hst⟩
   dsimp only
   rw [qQ]
   rcases fU e.inp x.pos x.text with hp|hp
   ·rw [hp];exact h.inp
   exact hp
  exact⟨h,hst⟩
 ·unfold bB;dsimp only;split
  ·rename_i hk
   obtain⟨n,_,_,hn,_,_,_,hl⟩:=vI hk
   obtain⟨_,_,_,_,_,_,_,_,hp⟩:=ja hl
   exact⟨⟨h.side,h.state,h.pol,h.own,h.far,h.halfs,h.bucket,Bu h.out hp,h.inp,h.done,h.over,h.subs8,h.nums,h.subs⟩,hst⟩
  exact⟨h,hst⟩
 unfold bg;dsimp only;split
 ·rename_i hk
  obtain⟨n,_,e1,hn,_⟩:=vI hk
  refine⟨⟨h.side,h.state,h.pol,h.own,h.far,h.halfs,h.bucket,h.out,h.inp,h.done,h.over,by dsimp only;rw [ba,La];exact h.subs8,h.nums,?_⟩,hst⟩
  dsimp only
  rw [e1,K4]
  exact h.subs.st4 hn
 exact⟨h,hst⟩
theorem xU {o:OutD} (F:FineO o):((cx o).length:Int)<=o.base+(o.text.length:Int) - o.sent:=by
 have:=F.sent
 simp only [cx,Lk,Lc]
 omega
theorem rU {o:OutD} (h:outOk o=true):outOk (dA o)=true:=by
 rw [dA];split
 ·have F:=bQ h
  have hl:=xU F
  obtain⟨h1,h2,h3,h4,h5⟩:=F
  rw [kw]
  exact⟨h1,h2,h3,by dsimp only;omega⟩
 exact h
theorem E4 {n:Int} (h:N9 n):N9 (iV n):=by
 simp only [N9] at h⊢
 rw [iV];split<;>omega
theorem vJ {e:EndD} (h:OkE e):OkE (ck e).1:=by
 unfold ck;split
 ·exact⟨h.side,h.state,h.pol,h.own,h.far,h.halfs,h.bucket,rU h.out,h.inp,h.done,h.over,h.subs8,⟨h.nums.1,h.nums.2.1,h.nums.2.2.1,h.nums.2.2.2.1,E4 h.nums.2.2.2.2⟩,h.subs⟩
 exact h
theorem lu {e:EndD}:(ck e).1.state=e.state:=by unfold ck;split<;>rfl
theorem mz:∀ {k:Nat} {e:EndD},OkE e->OkE (bC k e).1/\(bC k e).1.state=e.state
 |0,e,h=>⟨h,rfl⟩
 |k+1,e,h=>by
  obtain⟨h1,h2⟩:=mz (k:=k) (vJ h)
  exact⟨h1,h2.trans lu⟩
theorem ui {o:OutD} {t:List UInt8} (h:outOk o=true):outOk (bZ o t).1=true:=by
 rw [bZ];split
 ·obtain⟨h1,h2,h3,h4,h5⟩:=bQ h
  rw [kw]
  refine⟨h1,h2,?_,?_⟩
  ·simp only [K8,Lk,jO];omega
  simp only [K8,Lk,jO];omega
 exact h
theorem mA {e:EndD} {t:List UInt8} (h:OkE e):OkE (cf e t).1/\(cf e t).1.state=e.state:=by
 unfold cf;split
 ·exact⟨⟨h.side,h.state,h.pol,h.own,h.far,h.halfs,h.bucket,ui h.out,h.inp,h.done,h.over,h.subs8,h.nums,h.subs⟩,rfl⟩
 exact⟨h,rfl⟩
theorem Bv {p:PiecesD} {m:Int} (h:piecesOk p=true) (hs:SmallP p):piecesOk (aK p m).1=true:=by
 rw [aK];split
 ·rename_i hk
  simp only [vy,KZ,decide_eq_true_eq] at hk
  have F:=bh h hs
  have hr:=F.ready
  have hr0:=F.r0
  have hn:=F.next
  have hN:sS p m<=p.ready.length:=L8 _ _
  simp only [piecesOk,kj,KZ,decide_eq_true_eq] at h⊢
  obtain⟨⟨⟨⟨a1,a2⟩,a3⟩,a4⟩,a5⟩:=h
  have hle:=vp (M:=200) fun x hx=>(F.texts x hx).1
  have hm:p.list.length*200<=20*200:=Nat.mul_le_mul_right _ F.list
  refine⟨⟨⟨⟨zO,zO⟩,a3⟩,?_⟩,?_⟩
  ·rw [m8,iU zO zO] at a4
   show gF ((p.ready.drop (sS p m)).length:Int) p.list<=200
   rw [iU zO (by rw [Lc];omega),Lc]
   omega
  have e:nextOf ⟨p.read+(sS p m:Int),p.ready.drop (sS p m),p.list⟩=nextOf p:=by
   rw [hn,nextOf,yD (by simp only [Lc];omega)]
   simp only [Lc]
   omega
  rw [e];exact a5
 exact h
theorem rV {e:EndD} {m:Int} (h:OkE e) (hs:SmallP e.inp):OkE (b_ e m).1/\(b_ e m).1.state=e.state:=by
 unfold b_;split
 ·exact⟨⟨h.side,h.state,h.pol,h.own,h.far,h.halfs,h.bucket,h.out,Bv h.inp hs,h.done,h.over,h.subs8,h.nums,h.subs⟩,rfl⟩
 exact⟨h,rfl⟩
theorem vK {o:OutD} (h:outOk o=true):outOk (dN o)=true:=by
 rw [dN,if_pos h]
 obtain⟨h1,h2,h3,h4,h5⟩:=bQ h
 rw [kw]
 exact⟨h1,h2,h3,by dsimp only;omega⟩
theorem rW {e:EndD} {l:List LetterD} (h:OkE e):OkE (bm e l).1/\(bm e l).1.state=e.state:=mz h
theorem vL {e:EndD} (h:OkE e):OkE (tick e).1/\(tick e).1.state=e.state:=by
 unfold tick;split
 ·rename_i hk
  simp only [Bm,KZ,decide_eq_true_eq,Lm] at hk
  have h0:∀ s:List SubD,s.length<=8->SuOk s->OkE { bU e with subs:=s }:=fun s h8 hs=>
   ⟨h.side,h.state,h.pol,h.own,h.far,h.halfs.young,ug h.bucket,vK h.out,h.inp,h.done,h.over,h8,⟨h.nums.1,h.nums.2.1,h.nums.2.2.1,by have:=h.nums.2.2.2.1;simp only [N9,bU] at this⊢;omega,h.nums.2.2.2.2⟩,hs⟩
  split
  ·refine rW (h0 _ (by rw [Lv];exact h.subs8) (h.subs.map fun s hs=>?_))
   have hel:=h.subs.el s hs
   have ht:=hk.2 s hs
   have hN:N9 (s.tries+1):=by have:=hel.2.2.2.2.2.2;simp only [N9] at this⊢;omega
   rw [aL];split
   ·rename_i hc
    split
    ·exact⟨⟨zP,hel.2.1,hel.2.2.1,hel.2.2.2.1,hel.2.2.2.2.1,hel.2.2.2.2.2.1,hN⟩,rfl,fun _=>rfl⟩
    exact⟨⟨hel.1,hel.2.1,hel.2.2.1,hel.2.2.2.1,hel.2.2.2.2.1,hel.2.2.2.2.2.1,hN⟩,rfl,fun h=>h⟩
   exact⟨hel,rfl,fun h=>h⟩
  exact rW (h0 e.subs h.subs8 h.subs)
 exact⟨h,rfl⟩
theorem Bw {e:EndD} {r:RoadD} {b:Bool} (h:OkE e):OkE (cA e r b).1/\(cA e r b).1.state=e.state:=by
 unfold cA;split
 ·rename_i hk
  simp only [sT,KZ,decide_eq_true_eq,cm,ks] at hk
  obtain⟨⟨⟨⟨⟨⟨⟨k1,k2⟩,k3⟩,k4⟩,k5⟩,k6⟩,k7⟩,k8⟩:=hk
  refine⟨⟨h.side,h.state,h.pol,h.own,h.far,h.halfs,h.bucket,h.out,h.inp,h.done,h.over,by simp only [K8,Li];omega,⟨h.nums.1,h.nums.2.1,⟨by dsimp only;omega,by dsimp only;omega⟩,h.nums.2.2.2⟩,?_⟩,rfl⟩
  refine h.subs.app ⟨by simp [bz],k3,?_,?_,?_,?_,?_⟩ fun x hx=>nI.1 k4 x hx
  all_goals simp only [bz,N9];omega
 exact⟨h,rfl⟩
theorem xV {far:List AddrD}:∀ {l:List RoadD} {e:EndD},OkE e->OkE (ci far e l).1/\(ci far e l).1.state=e.state
 |[],e,h=>⟨h,rfl⟩
 |r::l,e,h=>by
  obtain⟨h1,h2⟩:=Bw (r:=r) (b:=aD far r.far) h
  obtain⟨h3,h4⟩:=xV (far:=far) (l:=l) h1
  exact⟨h3,h4.trans h2⟩
theorem pp {e:EndD} {a:ActD} (h:OkE e) (hs:SmallP e.inp):OkE (dj e a).1/\(dj e a).1.state=e.state:=by
 unfold dj
 split
 ·obtain⟨h1,h2⟩:=mA (t:=a.text) h
  obtain⟨h3,h4⟩:=mz (k:=3) h1
  exact⟨h3,h4.trans h2⟩
 split
 ·exact rV h hs
 split
 ·exact vL h
 split
 ·unfold manage;split
  ·exact xV h
  exact⟨h,rfl⟩
 split
 ·unfold addOwn;split
  ·rename_i hk
   simp only [zE,KZ,Lh,E3] at hk
   exact⟨⟨h.side,h.state,h.pol,h.own.put,h.far,h.halfs,h.bucket,h.out,h.inp,h.done.put hk.2,h.over,h.subs8,h.nums,h.subs⟩,rfl⟩
  exact⟨h,rfl⟩
 split
 ·unfold gm;split
  ·rename_i hk
   simp only [Ib,KZ,decide_eq_true_eq] at hk
   obtain⟨n,e1,hn,e2⟩:=jW hk.2
   refine⟨⟨h.side,h.state,h.pol,h.own.drop,h.far,h.halfs,h.bucket,h.out,h.inp,h.done.drop h.own ⟨_,K0 hn,e2⟩,h.over,by dsimp only;rw [fW,Lv];exact h.subs8,h.nums,h.subs.map fun s hs=>?_⟩,rfl⟩
   rw [Bk];split
   ·exact⟨(h.subs.el s hs).st zO,rfl,fun _=>rfl⟩
   exact⟨h.subs.el s hs,rfl,fun h=>h⟩
  exact⟨h,rfl⟩
 unfold iX;split
 ·rename_i hk
  simp only [GF,KZ,decide_eq_true_eq,cm] at hk
  obtain⟨n,hn⟩:=LM hk.1.2.1
  refine⟨⟨h.side,h.state,h.pol,h.own,h.far,h.halfs,h.bucket,h.out,h.inp,h.done,h.over,by dsimp only;rw [ba,La];exact h.subs8,h.nums,?_⟩,rfl⟩
  dsimp only
  rw [hn,K4]
  exact h.subs.st4 zO
 exact⟨h,rfl⟩
def bk (r:RoadD):RoadD:=⟨r.far,r.own,r.port⟩
theorem ee (r:RoadD):bk (bk r)=r:=rfl
theorem bb (r:RoadD) (x:LetterD):roadOf (ae r x)=bk r:=rfl
def Loose (nums:List Int) (n:Int):Prop:=n < 1000\/n∈nums
def Slice (W:List UInt8) (p:Int) (t:List UInt8):Prop:=0<=p/\p+(t.length:Int)<=W.length/\t=(W.drop p.toNat).take t.length
theorem Slice.app {W:List UInt8} {p:Int} {t:List UInt8} (h:Slice W p t) (V:List UInt8):Slice (W++V) p t:=by
 obtain⟨h0,h1,h2⟩:=h
 refine⟨h0,by simp only [K8];omega,?_⟩
 rw [Lz zO,List.take_append_of_le_length (by simp only [Lc];omega)]
 exact h2
def Told (e:EndD) (i d:Int):Prop:=(∃ q∈e.own,q.id=i/\q.addr=d)\/i∈e.done
structure LetI (w:WorldD) (x:LetterD):Prop where
 a4:sideAt x.to=1->x.kind=4->Loose w.nums x.nonce
 a5:sideAt x.to=1->x.kind=5->∀ m,x.tag=⟨1,w.b.key,w.a.key,x.nonce,m⟩->Loose w.nums m\/(x.nonce < w.b.draw/\∀ h∈w.b.halfs,h.mine=x.nonce->h.theirs=m/\h.take=x.give/\h.road=bk (roadOf x))
 a6:sideAt x.to=1->x.kind=6->∀ m n,¬ x.tag=⟨2,w.b.key,w.a.key,m,n⟩
 a7:sideAt x.to=1->x.kind=7->Loose w.nums x.sgn\/∃ t∈w.b.subs,t.give=x.sgn
 a8:sideAt x.to=1->x.kind=8->∀ i d,x.tag=⟨3,w.b.key,w.a.key,i,d⟩->sideAt d=2/\Told w.b i d
 a11:sideAt x.to=1->x.kind=11->Loose w.nums x.sgn\/Slice w.wroteB x.pos x.text
 b4:sideAt x.to=2->x.kind=4->Loose w.nums x.nonce\/∃ s∈w.a.subs,1000<=s.mine/\x.nonce=s.mine/\x.give=s.take/\roadOf x=bk s.road
 b6:sideAt x.to=2->x.kind=6->∀ m n,x.tag=⟨2,w.a.key,w.b.key,m,n⟩->∃ s∈w.a.subs,¬ s.state=1/\1000<=s.mine/\m=s.mine/\n=s.theirs/\roadOf x=bk s.road
 b8:sideAt x.to=2->x.kind=8->∀ i d,x.tag=⟨3,w.a.key,w.b.key,i,d⟩->sideAt d=1/\Told w.a i d
 b11:sideAt x.to=2->x.kind=11->Loose w.nums x.sgn\/Slice w.wroteA x.pos x.text
structure SubTo (s s':SubD):Prop where
 road:s'.road=s.road
 mine:s'.mine=s.mine
 take:s'.take=s.take
 rest:¬ s.state=1->¬ s'.state=1/\s'.theirs=s.theirs/\s'.give=s.give
theorem SubTo.refl (s:SubD):SubTo s s:=⟨rfl,rfl,rfl,fun h=>⟨h,rfl,rfl⟩⟩
structure Le (w w':WorldD):Prop where
 ka:w'.a.key=w.a.key
 kb:w'.b.key=w.b.key
 nums:∀ n∈w.nums,n∈w'.nums
 sa:∀ s∈w.a.subs,∃ s'∈w'.a.subs,SubTo s s'
 sb:∀ t∈w.b.subs,∃ t'∈w'.b.subs,t'.give=t.give
 db:w.b.draw<=w'.b.draw
 hb:∀ h'∈w'.b.halfs,w.b.draw<=h'.mine\/∃ h∈w.b.halfs,h.mine=h'.mine/\h.theirs=h'.theirs/\h.take=h'.take/\h.road=h'.road
 ta:∀ i d,Told w.a i d->Told w'.a i d
 tb:∀ i d,Told w.b i d->Told w'.b i d
 wa:∃ t,w'.wroteA=w.wroteA++t
 wb:∃ t,w'.wroteB=w.wroteB++t
theorem Loose.mono {l m:List Int} {n:Int} (h:Loose l n) (g:∀ n∈l,n∈m):Loose m n:=h.imp id (g n)
theorem LetI.mono {w w':WorldD} {x:LetterD} (L:LetI w x) (h:Le w w'):LetI w' x:=by
 refine⟨?_,?_,?_,?_,?_,?_,?_,?_,?_,?_⟩
 ·exact fun h1 h2=>(L.a4 h1 h2).mono h.nums
 ·intro h1 h2 m h3
  rw [h.ka,h.kb] at h3
  rcases L.a5 h1 h2 m h3 with q|⟨q1,q2⟩
  ·exact .inl (q.mono h.nums)
  refine .inr ⟨L3 q1 h.db,fun k hk hm=>?_⟩
  rcases h.hb k hk with g|⟨k',g1,g2,g3,g4,g5⟩
  ·omega
  rw [<-g3,<-g4,<-g5];exact q2 k' g1 zO
 ·intro h1 h2;rw [h.ka,h.kb];exact L.a6 h1 h2
 ·intro h1 h2
  rcases L.a7 h1 h2 with q|⟨t,q1,q2⟩
  ·exact .inl (q.mono h.nums)
  obtain⟨t',g1,g2⟩:=h.sb t q1
  exact .inr ⟨t',g1,g2.trans q2⟩
 ·intro h1 h2 i d h3
  rw [h.ka,h.kb] at h3
  obtain⟨q1,q2⟩:=L.a8 h1 h2 i d h3
  exact⟨q1,h.tb i d q2⟩
 ·intro h1 h2
  rcases L.a11 h1 h2 with q|q
  ·exact .inl (q.mono h.nums)
  obtain⟨t,e⟩:=h.wb
  rw [e];exact .inr (q.app t)
 ·intro h1 h2
  rcases L.b4 h1 h2 with q|⟨s,q1,q2,q3,q4,q5⟩
  ·exact .inl (q.mono h.nums)
  obtain⟨s',g1,g2⟩:=h.sa s q1
  exact .inr ⟨s',g1,by rw [g2.mine];exact q2,by rw [g2.mine];exact q3,by rw [g2.take];exact q4,by rw [g2.road];exact q5⟩
 ·intro h1 h2 m n h3
  rw [h.ka,h.kb] at h3
  obtain⟨s,q1,q2,q3,q4,q5,q6⟩:=L.b6 h1 h2 m n h3
  obtain⟨s',g1,g2⟩:=h.sa s q1
  obtain⟨r1,r2,r3⟩:=g2.rest q2
  exact⟨s',g1,r1,by rw [g2.mine];exact q3,by rw [g2.mine];exact q4,by rw [r2];exact q5,by rw [g2.road];exact q6⟩
 ·intro h1 h2 i d h3
  rw [h.ka,h.kb] at h3
  obtain⟨q1,q2⟩:=L.b8 h1 h2 i d h3
  exact⟨q1,h.ta i d q2⟩
 intro h1 h2
 rcases L.b11 h1 h2 with q|q
 ·exact .inl (q.mono h.nums)
 obtain⟨t,e⟩:=h.wa
 rw [e];exact .inr (q.app t)
structure SubA (nums:List Int) (da db:Int) (hb:List HalfD) (sb:List SubD) (s:SubD):Prop where
 t4:s.take % 4=3/\1000<=s.take/\s.take < da
 tn:¬ s.take∈nums
 mine:s.mine=0\/(s.mine+2=s.take/\¬ s.mine∈nums)
 own:sideAt s.road.own=1
 far:sideAt s.road.far=2
 th:s.theirs < db/\∀ h∈hb,h.mine=s.theirs->h.theirs=s.mine/\h.take=s.give/\h.road=bk s.road
 on:s.state=3->∃ t∈sb,t.road=bk s.road/\t.take=s.give/\t.give=s.take
 ask:s.state=1\/s.state=2->1000<=s.mine
structure SubB (nums:List Int) (db:Int) (sa:List SubD) (t:SubD):Prop where
 t4:t.take % 4=0/\1000<=t.take/\t.take < db
 tn:¬ t.take∈nums
 st:t.state=3\/t.state=4
 like:∃ s∈sa,¬ s.state=1/\s.road=bk t.road/\s.take=t.give/\s.give=t.take
structure HalfA (nums:List Int) (da:Int) (sa:List SubD) (h:HalfD):Prop where
 m4:h.mine % 4=1/\1000<=h.mine/\h.mine+2 < da/\h.take=h.mine+2
 sep:∀ s∈sa,¬ s.take=h.take
 th:Loose nums h.theirs
structure HalfB (nums:List Int) (db:Int) (sa sb:List SubD) (h:HalfD):Prop where
 m4:h.mine % 4=2/\1000<=h.mine/\h.mine+2 < db/\h.take=h.mine+2
 sep:∀ t∈sb,¬ t.take=h.take
 th:Loose nums h.theirs\/(¬ h.take∈nums/\∃ s∈sa,1000<=s.mine/\s.mine=h.theirs/\s.take=h.give/\s.road=bk h.road)
structure OutI (W:List UInt8) (o:OutD):Prop where
 base:0<=o.base/\o.base+(o.text.length:Int)=W.length
 text:o.text=W.drop o.base.toNat
structure InI (W R:List UInt8) (p:PiecesD):Prop where
 read:p.read=R.length
 pre:∃ T,W=R++p.ready++T
 list:∀ x∈p.list,Slice W x.pos x.text
structure Core (w:WorldD):Prop where
 oka:OkE w.a
 okb:OkE w.b
 sta:w.a.state=2
 stb:w.b.state=2
 sia:w.a.side=1
 sib:w.b.side=2
 ka:1000<=w.a.key
 kb:1000<=w.b.key
 kk:¬ w.a.key=w.b.key
 pa:w.a.peer=w.b.key
 pb:w.b.peer=w.a.key
 keys:w.known.keys=[5,7]
 tags:∀ u∈w.known.tags,u.kind=1/\Loose w.nums u.b
 da:w.a.draw % 4=1/\1000<=w.a.draw
 db:w.b.draw % 4=2/\1000<=w.b.draw
 nn:∀ n∈w.nums,(n % 2=1->n < w.a.draw)/\(n % 2=0->n < w.b.draw)
 sa:∀ s∈w.a.subs,SubA w.nums w.a.draw w.b.draw w.b.halfs w.b.subs s
 sad:w.a.subs.Pairwise fun s t=>¬ s.take=t.take
 sb:∀ t∈w.b.subs,SubB w.nums w.b.draw w.a.subs t
 ha:∀ h∈w.a.halfs,HalfA w.nums w.a.draw w.a.subs h
 hb:∀ h∈w.b.halfs,HalfB w.nums w.b.draw w.a.subs w.b.subs h
 hbd:w.b.halfs.Pairwise fun h k=>¬ h.take=k.take
 oa:∀ q∈w.a.own,sideAt q.addr=1
 ob:∀ q∈w.b.own,sideAt q.addr=2
 fa:∀ f∈w.a.far,sideAt f.addr=2/\Told w.b f.id f.addr
 fb:∀ f∈w.b.far,sideAt f.addr=1/\Told w.a f.id f.addr
 oia:OutI w.wroteA w.a.out
 oib:OutI w.wroteB w.b.out
 iia:InI w.wroteB w.readA w.a.inp
 iib:InI w.wroteA w.readB w.b.inp
structure Inv (w:WorldD):Prop where
 c:Core w
 bag:∀ x∈w.bag,LetI w x
 past:∀ x∈w.past,LetI w x
theorem iB {l:List SubD} (h:l.Pairwise fun s t=>¬ s.take=t.take) {s t:SubD} (hs:s∈l) (ht:t∈l) (e:s.take=t.take):s=t:=by
 obtain⟨i,hi,rfl⟩:=K6 hs
 obtain⟨j,hj,rfl⟩:=K6 ht
 rw [K5] at h
 rcases Lu i j with hl|hl|hl
 ·exact absurd e (h i j hi hj hl)
 ·subst hl;rfl
 exact absurd e.symm (h j i hj hi hl)
structure Free (w:WorldD) (x:LetterD):Prop where
 kind:x.tag.kind=1
 th:Loose w.nums x.tag.b
 sgn:x.sgn=0
 sa:∀ s∈w.a.subs,¬ s.take=x.give/\¬ s.take=x.nonce/\(s.mine=0\/¬ s.mine=x.nonce/\¬ s.mine=x.give)
 sb:∀ t∈w.b.subs,¬ t.take=x.give/\¬ t.take=x.nonce
 hb:∀ h∈w.b.halfs,h.take=x.give\/h.take=x.nonce->Loose w.nums h.theirs
 pos:1000<=x.nonce/\1000<=x.give
 nn:∀ n,n=x.nonce\/n=x.give->(n % 2=1->n < w.a.draw)/\(n % 2=0->n < w.b.draw)
structure Post (w:WorldD) (x:LetterD):Prop where
 some:sideAt x.to=0\/LetI w x
 none:sideAt x.to=0->Free w x
theorem rX {l:List Int} {n m:Int} (h:m∈vr l n):m=n/\0 < n\/m∈l:=by
 rw [vr] at h;split at h
 ·rename_i hc
  rcases K2.1 h with h|h
  ·exact .inr h
  exact .inl ⟨K1.1 h,hc.1⟩
 exact .inr h
theorem iC {l:List Int} {n m:Int} (h:m∈l):m∈vr l n:=by
 rw [vr];split
 ·exact K_ _ h
 exact h
theorem CZ {w:WorldD} {x:LetterD} (h:sideAt x.to=0):LetI w x:=by
 constructor<;>(intro h1;omega)
theorem Post.let {w:WorldD} {x:LetterD} (h:Post w x):LetI w x:=h.some.elim CZ id
theorem mB {w w':WorldD} (ha:w'.a=w.a) (hb:w'.b=w.b) (hn:∀ n∈w.nums,n∈w'.nums) (h1:w'.wroteA=w.wroteA) (h2:w'.wroteB=w.wroteB):Le w w':=by
 refine⟨by rw [ha],by rw [hb],hn,fun s hs=>⟨s,by rw [ha];exact hs,SubTo.refl s⟩,fun t ht=>⟨t,by rw [hb];exact ht,rfl⟩,by rw [hb];exact K3 _,fun h hh=>.inr ⟨h,by rw [hb] at hh;exact hh,rfl,rfl,rfl,rfl⟩,fun i d h=>by rw [ha];exact h,fun i d h=>by rw [hb];exact h,⟨[],by rw [h1,Lj]⟩,⟨[],by rw [h2,Lj]⟩⟩
theorem Post.mono {w w':WorldD} {x:LetterD} (h:Post w x) (L:Le w w') (ha:w'.a=w.a) (hb:w'.b=w.b):Post w' x:=by
 refine⟨h.some.imp id fun q=>q.mono L,fun h0=>?_⟩
 have F:=h.none h0
 exact⟨F.kind,F.th.mono L.nums,F.sgn,by rw [ha];exact F.sa,by rw [hb];exact F.sb,by rw [hb];exact fun k hk hq=>(F.hb k hk hq).mono L.nums,F.pos,by rw [ha,hb];exact F.nn⟩
theorem Ae {k:KnownD} {t u:TagD} (h:u∈(qh k t).tags):u=t\/u∈k.tags:=by
 rw [qh] at h;split at h
 ·rcases K2.1 h with h|h
  ·exact .inr h
  exact .inl (K1.1 h)
 exact .inr h
theorem rY {w:WorldD} {side:Int} {x:LetterD} (h:Core w):Core (tR side w x):=⟨h.oka,h.okb,h.sta,h.stb,h.sia,h.sib,h.ka,h.kb,h.kk,h.pa,h.pb,h.keys,h.tags,h.da,h.db,h.nn,h.sa,h.sad,h.sb,h.ha,h.hb,h.hbd,h.oa,h.ob,h.fa,h.fb,h.oia,h.oib,h.iia,h.iib⟩
theorem xW {w:WorldD} {l:List LetterD} (h:Core w):Core { w with bag:=l }:=⟨h.oka,h.okb,h.sta,h.stb,h.sia,h.sib,h.ka,h.kb,h.kk,h.pa,h.pb,h.keys,h.tags,h.da,h.db,h.nn,h.sa,h.sad,h.sb,h.ha,h.hb,h.hbd,h.oa,h.ob,h.fa,h.fb,h.oia,h.oib,h.iia,h.iib⟩
theorem Af {w:WorldD} {x:LetterD} (h:Core w) (F:Free w x):Core (tT w x):=by
 have hn:∀ n∈(tT w x).nums,n=x.nonce\/n=x.give\/n∈w.nums:=by
  intro n hm
  rcases rX hm with⟨_,h0⟩|hm
  ·rw [F.sgn] at h0;omega
  rcases rX hm with⟨e,_⟩|hm
  ·exact .inr (.inl e)
  rcases rX hm with⟨e,_⟩|hm
  ·exact .inl e
  exact .inr (.inr hm)
 have ho:∀ n∈w.nums,n∈(tT w x).nums:=fun n hm=>iC (iC (iC hm))
 refine⟨h.oka,h.okb,h.sta,h.stb,h.sia,h.sib,h.ka,h.kb,h.kk,h.pa,h.pb,?_,?_,h.da,h.db,?_,?_,h.sad,?_,?_,?_,h.hbd,h.oa,h.ob,h.fa,h.fb,h.oia,h.oib,h.iia,h.iib⟩
 ·rw [tT,rj];exact h.keys
 ·intro u hu
  rcases Ae hu with rfl|hu
  ·exact⟨F.kind,F.th.mono ho⟩
  exact⟨(h.tags u hu).1,(h.tags u hu).2.mono ho⟩
 ·intro n hm
  rcases hn n hm with e|e|e
  ·exact F.nn n (.inl e)
  ·exact F.nn n (.inr e)
  exact h.nn n e
 ·intro s hs
  have S:=h.sa s hs
  obtain⟨f1,f2,f3⟩:=F.sa s hs
  refine⟨S.t4,fun hc=>?_,?_,S.own,S.far,S.th,S.on,S.ask⟩
  ·rcases hn _ hc with e|e|e
   ·exact f2 e
   ·exact f1 e
   exact S.tn e
  rcases S.mine with m|⟨m1,m2⟩
  ·exact .inl m
  rcases f3 with f3|⟨f3,f4⟩
  ·exact .inl f3
  refine .inr ⟨m1,fun hc=>?_⟩
  rcases hn _ hc with e|e|e
  ·exact f3 e
  ·exact f4 e
  exact m2 e
 ·intro t ht
  have S:=h.sb t ht
  obtain⟨f1,f2⟩:=F.sb t ht
  refine⟨S.t4,fun hc=>?_,S.st,S.like⟩
  rcases hn _ hc with e|e|e
  ·exact f2 e
  ·exact f1 e
  exact S.tn e
 ·intro k hk
  have S:=h.ha k hk
  exact⟨S.m4,S.sep,S.th.mono ho⟩
 intro k hk
 have S:=h.hb k hk
 refine⟨S.m4,S.sep,?_⟩
 rcases S.th with q|⟨q1,q2⟩
 ·exact .inl (q.mono ho)
 by_cases hf:k.take=x.give\/k.take=x.nonce
 ·exact .inl ((F.hb k hk hf).mono ho)
 refine .inr ⟨fun hc=>?_,q2⟩
 rcases hn _ hc with e|e|e
 ·exact hf (.inr e)
 ·exact hf (.inl e)
 exact q1 e
theorem nJ {w:WorldD} {side:Int} {x:LetterD} (h:Inv w) (P:Post w x):Inv (bl side w x)/\Le w (bl side w x)/\(bl side w x).a=w.a/\(bl side w x).b=w.b:=by
 obtain⟨e1,e2,e3,e4,_,_⟩:=fy (side:=side) (w:=w) (x:=x)
 have hpast:∀ y∈fV w.past x,y=x\/y∈w.past:=by
  intro y hy
  rw [fV] at hy;split at hy
  ·rcases K2.1 hy with hy|hy
   ·exact .inr hy
   exact .inl (K1.1 hy)
  exact .inr hy
 have hbag:∀ y∈vu w.bag x,y=x\/y∈w.bag:=by
  intro y hy
  rw [vu] at hy;split at hy
  ·rcases K2.1 hy with hy|hy
   ·exact .inr hy
   exact .inl (K1.1 hy)
  exact .inr hy
 have hL:=P.let
 by_cases h0:sideAt x.to=0
 ·have hl:Le w (bl side w x):=mB e1 e2 (by rw [bl,if_pos h0];exact fun n hm=>iC (iC (iC hm))) e3 e4
  refine⟨?_,hl,e1,e2⟩
  have hc:=Af (w:=tR side w x) (x:=x) (rY h.c) ⟨(P.none h0).kind,(P.none h0).th,(P.none h0).sgn,(P.none h0).sa,(P.none h0).sb,(P.none h0).hb,(P.none h0).pos,(P.none h0).nn⟩
  refine⟨by rw [bl,if_pos h0];exact hc,fun y hy=>?_,fun y hy=>?_⟩
  ·rw [bl,if_pos h0] at hy
   exact (h.bag y hy).mono hl
  rw [bl,if_pos h0] at hy
  rcases hpast y hy with rfl|hy
  ·exact hL.mono hl
  exact (h.past y hy).mono hl
 have hl:Le w (bl side w x):=mB e1 e2 (by rw [bl,if_neg h0];exact fun n hm=>hm) e3 e4
 refine⟨?_,hl,e1,e2⟩
 refine⟨by rw [bl,if_neg h0];exact xW (rY h.c),fun y hy=>?_,fun y hy=>?_⟩
 ·rw [bl,if_neg h0] at hy
  rcases hbag y hy with rfl|hy
  ·exact hL.mono hl
  exact (h.bag y hy).mono hl
 rw [bl,if_neg h0] at hy
 rcases hpast y hy with rfl|hy
 ·exact hL.mono hl
 exact (h.past y hy).mono hl
theorem uj {side:Int}:∀ {l:List LetterD} {w:WorldD},Inv w->(∀ x∈l,Post w x)->Inv (bY side w l)
 |[],w,h,_=>h
 |x::l,w,h,P=>by
  obtain⟨h1,h2,h3,h4⟩:=nJ (side:=side) h (P x zP)
  exact uj (l:=l) h1 fun y hy=>(P y (by simp [hy])).mono h2 h3 h4
theorem InI.app {W R:List UInt8} {p:PiecesD} (h:InI W R p) (V:List UInt8):InI (W++V) R p:=by
 obtain⟨T,hT⟩:=h.pre
 exact⟨h.read,⟨T++V,by rw [hT];simp⟩,fun x hx=>(h.list x hx).app V⟩
structure PutA (w w':WorldD):Prop where
 hb:w'.b=w.b
 nums:w'.nums=w.nums
 known:w'.known=w.known
 readB:w'.readB=w.readB
 wroteB:w'.wroteB=w.wroteB
 wroteA:∃ t,w'.wroteA=w.wroteA++t
 ok:OkE w'.a
 st:w'.a.state=2
 sd:w'.a.side=1
 ky:w'.a.key=w.a.key
 pe:w'.a.peer=w.a.peer
 dr:w'.a.draw % 4=1/\w.a.draw<=w'.a.draw
 evo:∀ s∈w.a.subs,∃ s'∈w'.a.subs,SubTo s s'
 sa:∀ s∈w'.a.subs,SubA w.nums w'.a.draw w.b.draw w.b.halfs w.b.subs s
 sad:w'.a.subs.Pairwise fun s t=>¬ s.take=t.take
 ha:∀ h∈w'.a.halfs,HalfA w.nums w'.a.draw w'.a.subs h
 oa:∀ q∈w'.a.own,sideAt q.addr=1
 fa:∀ f∈w'.a.far,sideAt f.addr=2/\Told w.b f.id f.addr
 tl:∀ i d,Told w.a i d->Told w'.a i d
 oia:OutI w'.wroteA w'.a.out
 iia:InI w.wroteB w'.readA w'.a.inp
theorem PutA.le {w w':WorldD} (P:PutA w w'):Le w w':=
 ⟨P.ky,by rw [P.hb],by rw [P.nums];exact fun n h=>h,P.evo,fun t ht=>⟨t,by rw [P.hb];exact ht,rfl⟩,by rw [P.hb];exact K3 _,fun h hh=>.inr ⟨h,by rw [P.hb] at hh;exact hh,rfl,rfl,rfl,rfl⟩,P.tl,fun i d h=>by rw [P.hb];exact h,P.wroteA,⟨[],by rw [P.wroteB,Lj]⟩⟩
theorem PutA.core {w w':WorldD} (P:PutA w w') (C:Core w):Core w':=by
 refine⟨P.ok,by rw [P.hb];exact C.okb,P.st,by rw [P.hb];exact C.stb,P.sd,by rw [P.hb];exact C.sib,by rw [P.ky];exact C.ka,by rw [P.hb];exact C.kb,by rw [P.ky,P.hb];exact C.kk,by rw [P.pe,P.hb];exact C.pa,by rw [P.hb,P.ky];exact C.pb,by rw [P.known];exact C.keys,by rw [P.known,P.nums];exact C.tags,⟨P.dr.1,by have:=C.da.2;have:=P.dr.2;omega⟩,by rw [P.hb];exact C.db,?_,by rw [P.nums,P.hb];exact P.sa,P.sad,?_,by rw [P.nums];exact P.ha,?_,by rw [P.hb];exact C.hbd,P.oa,by rw [P.hb];exact C.ob,by rw [P.hb];exact P.fa,?_,P.oia,by rw [P.wroteB,P.hb];exact C.oib,by rw [P.wroteB];exact P.iia,?_⟩
 ·rw [P.nums,P.hb]
  intro n hn
  have:=C.nn n hn
  have hd:=P.dr.2
  exact⟨fun h=>by have:=this.1 h;omega,this.2⟩
 ·rw [P.nums,P.hb]
  intro t ht
  have S:=C.sb t ht
  obtain⟨s,h1,h2,h3,h4,h5⟩:=S.like
  obtain⟨s',g1,g2⟩:=P.evo s h1
  obtain⟨r1,r2,r3⟩:=g2.rest h2
  exact⟨S.t4,S.tn,S.st,s',g1,r1,by rw [g2.road];exact h3,by rw [g2.take];exact h4,by rw [r3];exact h5⟩
 ·rw [P.nums,P.hb]
  intro h hh
  have S:=C.hb h hh
  refine⟨S.m4,S.sep,S.th.imp id fun⟨q1,s,h1,h2,h3,h4,h5⟩=>?_⟩
  obtain⟨s',g1,g2⟩:=P.evo s h1
  exact⟨q1,s',g1,by rw [g2.mine];exact h2,by rw [g2.mine];exact h3,by rw [g2.take];exact h4,by rw [g2.road];exact h5⟩
 ·rw [P.hb]
  exact fun f hf=>⟨(C.fb f hf).1,P.tl _ _ (C.fb f hf).2⟩
 rw [P.readB,P.hb]
 obtain⟨t,ht⟩:=P.wroteA
 rw [ht];exact C.iib.app t
structure PutB (w w':WorldD):Prop where
 ha:w'.a=w.a
 nums:w'.nums=w.nums
 known:w'.known=w.known
 readA:w'.readA=w.readA
 wroteA:w'.wroteA=w.wroteA
 wroteB:∃ t,w'.wroteB=w.wroteB++t
 ok:OkE w'.b
 st:w'.b.state=2
 sd:w'.b.side=2
 ky:w'.b.key=w.b.key
 pe:w'.b.peer=w.b.peer
 dr:w'.b.draw % 4=2/\w.b.draw<=w'.b.draw
 evo:∀ t∈w.b.subs,∃ t'∈w'.b.subs,t'.road=t.road/\t'.take=t.take/\t'.give=t.give
 sb:∀ t∈w'.b.subs,SubB w.nums w'.b.draw w.a.subs t
 hb:∀ h∈w'.b.halfs,HalfB w.nums w'.b.draw w.a.subs w'.b.subs h
 hbd:w'.b.halfs.Pairwise fun h k=>¬ h.take=k.take
 hev:∀ h'∈w'.b.halfs,w.b.draw<=h'.mine\/∃ h∈w.b.halfs,h.mine=h'.mine/\h.theirs=h'.theirs/\h.take=h'.take/\h.road=h'.road
 ob:∀ q∈w'.b.own,sideAt q.addr=2
 fb:∀ f∈w'.b.far,sideAt f.addr=1/\Told w.a f.id f.addr
 tl:∀ i d,Told w.b i d->Told w'.b i d
 oib:OutI w'.wroteB w'.b.out
 iib:InI w.wroteA w'.readB w'.b.inp
theorem PutB.le {w w':WorldD} (P:PutB w w'):Le w w':=
 ⟨by rw [P.ha],P.ky,by rw [P.nums];exact fun n h=>h,fun s hs=>⟨s,by rw [P.ha];exact hs,SubTo.refl s⟩,fun t ht=>by obtain⟨t',g1,_,_,g2⟩:=P.evo t ht;exact⟨t',g1,g2⟩,P.dr.2,P.hev,fun i d h=>by rw [P.ha];exact h,P.tl,⟨[],by rw [P.wroteA,Lj]⟩,P.wroteB⟩
theorem PutB.core {w w':WorldD} (P:PutB w w') (C:Core w):Core w':=by
 refine⟨by rw [P.ha];exact C.oka,P.ok,by rw [P.ha];exact C.sta,P.st,by rw [P.ha];exact C.sia,P.sd,by rw [P.ha];exact C.ka,by rw [P.ky];exact C.kb,by rw [P.ky,P.ha];exact C.kk,by rw [P.ha,P.ky];exact C.pa,by rw [P.pe,P.ha];exact C.pb,by rw [P.known];exact C.keys,by rw [P.known,P.nums];exact C.tags,by rw [P.ha];exact C.da,⟨P.dr.1,by have:=C.db.2;have:=P.dr.2;omega⟩,?_,?_,by rw [P.ha];exact C.sad,by rw [P.nums,P.ha];exact P.sb,by rw [P.nums,P.ha];exact C.ha,by rw [P.nums,P.ha];exact P.hb,P.hbd,by rw [P.ha];exact C.oa,P.ob,?_,by rw [P.ha];exact P.fb,by rw [P.wroteA,P.ha];exact C.oia,P.oib,?_,by rw [P.wroteA];exact P.iib⟩
 ·rw [P.nums,P.ha]
  intro n hn
  have:=C.nn n hn
  have hd:=P.dr.2
  exact⟨this.1,fun h=>by have:=this.2 h;omega⟩
 ·rw [P.nums,P.ha]
  intro s hs
  have S:=C.sa s hs
  refine⟨S.t4,S.tn,S.mine,S.own,S.far,⟨L3 S.th.1 P.dr.2,fun h hh hm=>?_⟩,fun h3=>?_,S.ask⟩
  ·rcases P.hev h hh with g|⟨k,g1,g2,g3,g4,g5⟩
   ·have:=S.th.1;omega
   obtain⟨q1,q2,q3⟩:=S.th.2 k g1 zO
   exact⟨by rw [<-g3];exact q1,by rw [<-g4];exact q2,by rw [<-g5];exact q3⟩
  obtain⟨t,g1,g2,g3,g4⟩:=S.on h3
  obtain⟨t',k1,k2,k3,k4⟩:=P.evo t g1
  exact⟨t',k1,by rw [k2];exact g2,by rw [k3];exact g3,by rw [k4];exact g4⟩
 ·rw [P.ha]
  exact fun f hf=>⟨(C.fa f hf).1,P.tl _ _ (C.fa f hf).2⟩
 rw [P.readA,P.ha]
 obtain⟨t,ht⟩:=P.wroteB
 rw [ht];exact C.iia.app t
structure SubKeep (s s':SubD):Prop where
 road:s'.road=s.road
 mine:s'.mine=s.mine
 theirs:s'.theirs=s.theirs
 give:s'.give=s.give
 take:s'.take=s.take
 state:s'.state=s.state\/s'.state=4
theorem SubKeep.refl (s:SubD):SubKeep s s:=⟨rfl,rfl,rfl,rfl,rfl,.inl rfl⟩
theorem SubKeep.to {s s':SubD} (h:SubKeep s s'):SubTo s s':=⟨h.road,h.mine,h.take,fun h1=>⟨by rcases h.state with g|g<;>omega,h.theirs,h.give⟩⟩
theorem SubKeep.subA {nums:List Int} {da db:Int} {hb:List HalfD} {sb:List SubD} {s s':SubD} (h:SubKeep s s') (S:SubA nums da db hb sb s):SubA nums da db hb sb s':=by
 refine⟨by rw [h.take];exact S.t4,by rw [h.take];exact S.tn,by rw [h.mine,h.take];exact S.mine,by rw [h.road];exact S.own,by rw [h.road];exact S.far,by rw [h.theirs,h.mine,h.give,h.road];exact S.th,fun h3=>?_,fun h1=>?_⟩
 ·rw [h.road,h.give,h.take]
  exact S.on (by rcases h.state with g|g<;>omega)
 rw [h.mine];exact S.ask (by rcases h.state with g|g<;>omega)
theorem SubKeep.subB {nums:List Int} {db:Int} {sa:List SubD} {t t':SubD} (h:SubKeep t t') (S:SubB nums db sa t):SubB nums db sa t':=
 ⟨by rw [h.take];exact S.t4,by rw [h.take];exact S.tn,by rcases h.state with g|g<;>(rw [g];first|exact S.st|exact .inr rfl),by rw [h.road,h.give,h.take];exact S.like⟩
structure SubsKeep (l m:List SubD):Prop where
 len:m.length=l.length
 at_:∀ (i:Nat) (h1:i < m.length) (h2:i < l.length),SubKeep l[i] m[i]
theorem SubsKeep.refl (l:List SubD):SubsKeep l l:=⟨rfl,fun i h1 h2=>SubKeep.refl _⟩
theorem SubsKeep.map {l:List SubD} {f:SubD->SubD} (h:∀ s∈l,SubKeep s (f s)):SubsKeep l (l.map f):=⟨zP,fun i h1 h2=>by rw [L7];exact h _ (K0 h2)⟩
theorem SubsKeep.st4 (l:List SubD) (n:Nat):SubsKeep l (ba l n 4):=by
 refine⟨by simp [ba],fun i h1 h2=>?_⟩
 simp only [ba,Lb]
 split
 ·rename_i e;subst e
  rw [br h2]
  exact⟨rfl,rfl,rfl,rfl,rfl,.inr rfl⟩
 exact SubKeep.refl _
theorem SubsKeep.old {l m:List SubD} (h:SubsKeep l m) {s:SubD} (hs:s∈m):∃ r∈l,SubKeep r s:=by
 obtain⟨i,hi,rfl⟩:=K6 hs
 have:=h.len
 exact⟨l[i],K0 zO,h.at_ i hi zO⟩
theorem SubsKeep.new {l m:List SubD} (h:SubsKeep l m) {s:SubD} (hs:s∈l):∃ r∈m,SubKeep s r:=by
 obtain⟨i,hi,rfl⟩:=K6 hs
 have:=h.len
 exact⟨m[i],K0 zO,h.at_ i zO hi⟩
theorem SubsKeep.pw {l m:List SubD} (h:SubsKeep l m) (p:l.Pairwise fun s t=>¬ s.take=t.take):m.Pairwise fun s t=>¬ s.take=t.take:=by
 rw [K5] at p⊢
 have:=h.len
 intro i j hi hj hij
 rw [(h.at_ i hi zO).take,(h.at_ j hj zO).take]
 exact p i j zO zO hij
def HalfKeep (h h':HalfD):Prop:=h.mine=h'.mine/\h.theirs=h'.theirs/\h.take=h'.take/\h.road=h'.road/\h.give=h'.give
theorem HalfKeep.refl (h:HalfD):HalfKeep h h:=⟨rfl,rfl,rfl,rfl,rfl⟩
structure MildA (w w':WorldD):Prop where
 hb:w'.b=w.b
 nums:w'.nums=w.nums
 known:w'.known=w.known
 readB:w'.readB=w.readB
 wroteB:w'.wroteB=w.wroteB
 wroteA:∃ t,w'.wroteA=w.wroteA++t
 ok:OkE w'.a/\w'.a.state=2
 sd:w'.a.side=w.a.side/\w'.a.key=w.a.key/\w'.a.peer=w.a.peer/\w'.a.draw=w.a.draw
 subs:SubsKeep w.a.subs w'.a.subs
 halfs:∀ h'∈w'.a.halfs,∃ h∈w.a.halfs,HalfKeep h h'
 oa:∀ q∈w'.a.own,sideAt q.addr=1
 fa:∀ f∈w'.a.far,sideAt f.addr=2/\Told w.b f.id f.addr
 tl:∀ i d,Told w.a i d->Told w'.a i d
 oia:OutI w'.wroteA w'.a.out
 iia:InI w.wroteB w'.readA w'.a.inp
theorem MildA.put {w w':WorldD} (M:MildA w w') (C:Core w):PutA w w':=by
 obtain⟨d1,d2,d3,d4⟩:=M.sd
 refine⟨M.hb,M.nums,M.known,M.readB,M.wroteB,M.wroteA,M.ok.1,M.ok.2,d1.trans C.sia,d2,d3,by rw [d4];exact⟨C.da.1,K3 _⟩,fun s hs=>?_,fun s hs=>?_,M.subs.pw C.sad,fun h hh=>?_,M.oa,M.fa,M.tl,M.oia,M.iia⟩
 ·obtain⟨r,h1,h2⟩:=M.subs.new hs
  exact⟨r,h1,h2.to⟩
 ·obtain⟨r,h1,h2⟩:=M.subs.old hs
  rw [d4];exact h2.subA (C.sa r h1)
 obtain⟨k,h1,h2,h3,h4,h5⟩:=M.halfs h hh
 have S:=C.ha k h1
 refine⟨by rw [d4,<-h2,<-h4];exact S.m4,fun s hs=>?_,by rw [<-h3];exact S.th⟩
 obtain⟨r,g1,g2⟩:=M.subs.old hs
 rw [<-h4,g2.take];exact S.sep r g1
structure MildB (w w':WorldD):Prop where
 ha:w'.a=w.a
 nums:w'.nums=w.nums
 known:w'.known=w.known
 readA:w'.readA=w.readA
 wroteA:w'.wroteA=w.wroteA
 wroteB:∃ t,w'.wroteB=w.wroteB++t
 ok:OkE w'.b/\w'.b.state=2
 sd:w'.b.side=w.b.side/\w'.b.key=w.b.key/\w'.b.peer=w.b.peer/\w'.b.draw=w.b.draw
 subs:SubsKeep w.b.subs w'.b.subs
 halfs:w'.b.halfs.Sublist w.b.halfs
 ob:∀ q∈w'.b.own,sideAt q.addr=2
 fb:∀ f∈w'.b.far,sideAt f.addr=1/\Told w.a f.id f.addr
 tl:∀ i d,Told w.b i d->Told w'.b i d
 oib:OutI w'.wroteB w'.b.out
 iib:InI w.wroteA w'.readB w'.b.inp
theorem MildB.put {w w':WorldD} (M:MildB w w') (C:Core w):PutB w w':=by
 obtain⟨d1,d2,d3,d4⟩:=M.sd
 refine⟨M.ha,M.nums,M.known,M.readA,M.wroteA,M.wroteB,M.ok.1,M.ok.2,d1.trans C.sib,d2,d3,by rw [d4];exact⟨C.db.1,K3 _⟩,fun s hs=>?_,fun s hs=>?_,fun h hh=>?_,C.hbd.sublist M.halfs,fun h hh=>.inr ⟨h,M.halfs.subset hh,rfl,rfl,rfl,rfl⟩,M.ob,M.fb,M.tl,M.oib,M.iib⟩
 ·obtain⟨r,h1,h2⟩:=M.subs.new hs
  exact⟨r,h1,h2.road,h2.take,h2.give⟩
 ·obtain⟨r,h1,h2⟩:=M.subs.old hs
  rw [d4];exact h2.subB (C.sb r h1)
 have S:=C.hb h (M.halfs.subset hh)
 refine⟨by rw [d4];exact S.m4,fun s hs=>?_,S.th⟩
 obtain⟨r,g1,g2⟩:=M.subs.old hs
 rw [g2.take];exact S.sep r g1
def oH (W:List UInt8) (n k:Nat):List UInt8:=(W.drop n).take k
theorem vM (W:List UInt8) (n k m:Nat):oH W n k++oH W (n+k) m=oH W n (k+m):=by
 rw [oH,oH,oH,List.take_add,LX]
theorem E5 (W:List UInt8) (n k j:Nat):(oH W n k).take j=oH W n (min j k):=by rw [oH,oH,List.take_take]
theorem rZ (W:List UInt8) (n k j:Nat):(oH W n k).drop j=oH W (n+j) (k - j):=by
 rw [oH,oH,List.drop_take,LX]
theorem vN {W:List UInt8} {n k:Nat} (h:n+k<=W.length):(oH W n k).length=k:=by
 rw [oH,Lk,Lc];omega
theorem nK {W t:List UInt8} {n:Nat}:Slice W (n:Int) t↔n+t.length<=W.length/\t=oH W n t.length:=by
 rw [Slice,K4]
 constructor
 ·rintro⟨_,h1,h2⟩;exact⟨zO,h2⟩
 rintro⟨h1,h2⟩;exact⟨zO,zO,h2⟩
theorem kx {W:List UInt8} {n k:Nat} (h:n+k<=W.length):Slice W (n:Int) (oH W n k):=by
 rw [nK,vN h];exact⟨h,rfl⟩
theorem Slice.nat {W t:List UInt8} {p:Int} (h:Slice W p t):∃ n k:Nat,p=(n:Int)/\t=oH W n k/\t.length=k/\n+k<=W.length:=by
 obtain⟨n,rfl⟩:=LM h.1
 obtain⟨h1,h2⟩:=nK.1 h
 exact⟨n,t.length,rfl,h2,rfl,h1⟩
theorem Slice.drop {W t:List UInt8} {p:Int} (h:Slice W p t) {d:Nat} (hd:d<=t.length):Slice W (p+(d:Int)) (t.drop d):=by
 obtain⟨n,k,rfl,h2,h3,h4⟩:=h.nat
 rw [h2,rZ,show (n:Int)+(d:Int)=((n+d:Nat):Int) by omega]
 exact kx zO
theorem xX {W:List UInt8} {a b:PieceD} (ha:Slice W a.pos a.text) (hb:Slice W b.pos b.text) (h1:b.pos<=a.pos+(a.text.length:Int)) (h2:a.pos<=b.pos+(b.text.length:Int)):Slice W (fh a b).pos (fh a b).text:=by
 obtain⟨n,k,e1,e2,e3,e4⟩:=ha.nat
 obtain⟨m,j,f1,f2,f3,f4⟩:=hb.nat
 rw [e3,e1,f1] at h1
 rw [f3,e1,f1] at h2
 rw [fh];split
 ·rename_i hlt
  rw [e1,f1] at hlt
  dsimp only
  rw [e1,f1,e2,f2,vN e4,show ((n:Int) - (m:Int)).toNat=n - m by omega,E5,rZ,show min (n - m) j=n - m by omega]
  have g:oH W m (n - m)++oH W n k++oH W (m+(n - m+k)) (j - (n - m+k))=oH W m (n - m+k+(j - (n - m+k))):=by
   have h3:=vM W m (n - m) k
   rw [show m+(n - m)=n by omega] at h3
   rw [h3,vM]
  rw [g]
  exact kx zO
 rename_i hge
 rw [e1,f1] at hge
 dsimp only
 rw [e1,f1,e2,f2,vN e4,show ((n:Int)+(k:Int) - (m:Int)).toNat=n+k - m by omega,rZ,show m+(n+k - m)=n+k by omega,vM]
 exact kx zO
structure PpW (W:List UInt8) (g:PpS):Prop where
 own:Slice W g.own.pos g.own.text
 acc:∀ z∈g.acc,Slice W z.pos z.text
theorem mC {α:Type} {l:List α} {x:α} {P:α->Prop} (hl:∀ z∈l,P z) (hx:P x):∀ z∈l++[x],P z:=fun z hz=>by
 rcases K2.1 hz with hz|hz
 ·exact hl z hz
 rw [K1.1 hz];exact hx
theorem E6 {W:List UInt8} {g:PpS} {x:PieceD} (h:PpW W g) (hx:Slice W x.pos x.text):PpW W (gK g x):=by
 rw [gK];split
 ·exact⟨h.own,mC h.acc hx⟩
 split
 ·refine⟨h.own,mC ?_ hx⟩
  split
  ·exact h.acc
  exact mC h.acc h.own
 exact⟨xX hx h.own zO zO,h.acc⟩
theorem E7 {W:List UInt8}:∀ {l:List PieceD} {g:PpS},PpW W g->(∀ x∈l,Slice W x.pos x.text)->PpW W (nm g l)
 |[],g,h,_=>h
 |x::l,g,h,hl=>E7 (l:=l) (E6 h (hl x zP)) fun y hy=>hl y (by simp [hy])
theorem GJ {W:List UInt8} {g:PpS} (h:PpW W g):∀ z∈iw g,Slice W z.pos z.text:=by
 rw [iw];split
 ·exact h.acc
 exact mC h.acc h.own
theorem InI.next {W R:List UInt8} {p:PiecesD} (h:InI W R p) (F:FineP p):nextOf p=((R.length+p.ready.length:Nat):Int):=by
 rw [F.next,h.read];omega
theorem Bx {W R:List UInt8} {p:PiecesD} {n:Int} {t:List UInt8} (h:InI W R p) (F:FineP p) (ht:Slice W n t):InI W R (jL p n t):=by
 have hA:=GJ (E7 (l:=p.list) (g:=⟨⟨n,t⟩,false,[]⟩) ⟨ht,fun z hz=>by simp at hz⟩ h.list)
 rw [jL]
 generalize iw (nm ⟨⟨n,t⟩,false,[]⟩ p.list)=l at hA
 rw [jf];split
 ·rw [kN];split
  ·rename_i he
   cases l with
   |nil=>
    obtain⟨T,hT⟩:=h.pre
    have e:(default:PieceD).text=[]:=rfl
    exact⟨h.read,⟨T,by rw [List.headD_nil,e,Lj];exact hT⟩,fun z hz=>by simp at hz⟩
   |cons y r=>
    rw [List.headD_cons] at he⊢
    refine⟨h.read,?_,fun z hz=>hA z (K9 _ hz)⟩
    have hy:=hA y zP
    rw [he,h.next F] at hy
    obtain⟨h1,h2⟩:=nK.1 hy
    obtain⟨T,hT⟩:=h.pre
    have hd:W.drop (R.length+p.ready.length)=T:=by
     rw [hT,Lz zP]
     simp
    refine⟨T.drop y.text.length,?_⟩
    rw [oH,hd] at h2
    dsimp only
    rw [hT]
    have:T=y.text++T.drop y.text.length:=by
     conv=>lhs;rw [<-LA y.text.length T]
     rw [<-h2]
    conv=>lhs;rw [this]
    simp
  exact⟨h.read,h.pre,hA⟩
 exact h
theorem r9 {W R:List UInt8} {p:PiecesD} {n:Int} {t:List UInt8} (h:InI W R p) (hs:SmallP p) (ht:Slice W n t):InI W R (putPiece p n t):=by
 rw [putPiece];split
 ·rename_i hk
  simp only [sQ,KZ] at hk
  have F:=bh hk.1.1 hs
  split
  ·exact h
  split
  ·have hd:=ht.drop (d:=(nextOf p - n).toNat) zO
   rw [show n+((nextOf p - n).toNat:Int)=nextOf p by omega] at hd
   exact Bx h F hd
  exact Bx h F ht
 exact h
theorem E8 {W R:List UInt8} {p:PiecesD} {m:Int} (h:InI W R p):InI W (R++(aK p m).2) (aK p m).1:=by
 rw [aK];split
 ·obtain⟨T,hT⟩:=h.pre
  refine⟨?_,⟨T,?_⟩,h.list⟩
  ·dsimp only
   rw [h.read]
   have:sS p m<=p.ready.length:=L8 _ _
   simp only [K8,Lk]
   omega
  dsimp only
  rw [hT]
  conv=>lhs;rw [<-LA (sS p m) p.ready]
  simp
 dsimp only
 rw [Lj];exact h
theorem xY {W:List UInt8} {o:OutD} {t:List UInt8} (h:OutI W o):OutI (W++t.take (bZ o t).2) (bZ o t).1:=by
 rw [bZ];split
 ·refine⟨⟨h.base.1,?_⟩,?_⟩
  ·have:=h.base.2
   have h2:=Bj o t
   simp only [K8,Lk]
   omega
  dsimp only
  have:=h.base
  rw [Lz zO,<-h.text]
 dsimp only
 rw [List.take_zero,Lj];exact h
theorem E9 {W:List UInt8} {o:OutD} {n:Int} (h:OutI W o):OutI W (came o n):=by
 rw [came];split
 ·rename_i hc
  obtain⟨h0,h1,h2⟩:=hc
  have F:=bQ h0
  obtain⟨a1,a2,a3,a4⟩:=F
  rw [yD zO] at h2
  have hb:=h.base
  refine⟨⟨by dsimp only;omega,?_⟩,?_⟩
  ·simp only [Lc];omega
  dsimp only
  rw [h.text,LX]
  congr 1
  omega
 exact h
theorem xZ {W:List UInt8} {o o':OutD} (h:OutI W o) (h1:o'.base=o.base) (h2:o'.text=o.text):OutI W o':=⟨by rw [h1,h2];exact h.base,by rw [h1,h2];exact h.text⟩
theorem uk {W:List UInt8} {o:OutD} (h:OutI W o):OutI W (dA o):=by
 rw [dA];split
 ·exact xZ h rfl rfl
 exact h
theorem E_ {W:List UInt8} {o:OutD} (h:OutI W o):OutI W (dN o):=by
 rw [dN];split
 ·exact xZ h rfl rfl
 exact h
theorem mD {W:List UInt8} {o:OutD} (h:OutI W o) (ho:outOk o=true):Slice W o.sent (cx o):=by
 obtain⟨a1,a2,a3,a4⟩:=bQ ho
 obtain⟨n,hn⟩:=LM (show 0<=o.sent by omega)
 have hb:=h.base
 have e:cx o=oH W n (min 20 (W.length - n)):=by
  rw [cx,h.text,LX,oH,show o.base.toNat+(o.sent - o.base).toNat=n by omega]
  rw [List.take_eq_take_iff]
  simp only [Lc]
  omega
 rw [e,hn]
 exact kx zO
def ff (w:WorldD) (e:EndD):WorldD:={ w with a:=e }
def inB (w:WorldD) (e:EndD):WorldD:={ w with b:=e }
structure Step (w w':WorldD) (l:List LetterD):Prop where
 c:Core w'
 le:Le w w'
 post:∀ x∈l,Post w' x
theorem PutA.step {w w':WorldD} {l:List LetterD} (P:PutA w w') (C:Core w) (h:Core w'->∀ x∈l,Post w' x):Step w w' l:=⟨P.core C,P.le,h (P.core C)⟩
theorem PutB.step {w w':WorldD} {l:List LetterD} (P:PutB w w') (C:Core w) (h:Core w'->∀ x∈l,Post w' x):Step w w' l:=⟨P.core C,P.le,h (P.core C)⟩
theorem cL {w:WorldD}:∀ x∈([]:List LetterD),Post w x:=fun x hx=>by simp at hx
theorem cN {w:WorldD} {y:LetterD} (h:Post w y):∀ x∈[y],Post w x:=fun x hx=>by rw [K1.1 hx];exact h
def oR (k:Int):Prop:=k=1\/k=2\/k=3\/k=9\/k=10\/k=12\/k=13
theorem kz {w:WorldD} {x:LetterD} (hk:oR x.kind) (hs:¬ sideAt x.to=0):Post w x:=by
 simp only [oR] at hk
 refine⟨.inr ?_,fun h=>absurd h hs⟩
 constructor<;>(intro _ h;omega)
theorem MildA.refl {w:WorldD} (C:Core w):MildA w w:=⟨rfl,rfl,rfl,rfl,rfl,⟨[],zP⟩,⟨C.oka,C.sta⟩,⟨rfl,rfl,rfl,rfl⟩,SubsKeep.refl _,fun h hh=>⟨h,hh,HalfKeep.refl h⟩,C.oa,C.fa,fun _ _ h=>h,C.oia,C.iia⟩
theorem MildB.refl {w:WorldD} (C:Core w):MildB w w:=⟨rfl,rfl,rfl,rfl,rfl,⟨[],zP⟩,⟨C.okb,C.stb⟩,⟨rfl,rfl,rfl,rfl⟩,SubsKeep.refl _,List.Sublist.refl _,C.ob,C.fb,fun _ _ h=>h,C.oib,C.iib⟩
theorem By {w:WorldD} (C:Core w) {s:SubD} (hs:s∈w.a.subs):¬ Loose w.nums s.take:=fun h=>by
 have S:=C.sa s hs
 rcases h with h|h
 ·have:=S.t4;omega
 exact S.tn h
theorem Bz {w:WorldD} (C:Core w) {s:SubD} (hs:s∈w.a.subs) (h0:1000<=s.mine):¬ Loose w.nums s.mine:=fun h=>by
 have S:=C.sa s hs
 rcases h with h|h
 ·omega
 rcases S.mine with g|⟨_,g⟩
 ·omega
 exact g h
theorem GK {w:WorldD} (C:Core w) {t:SubD} (ht:t∈w.b.subs):¬ Loose w.nums t.take:=fun h=>by
 have S:=C.sb t ht
 rcases h with h|h
 ·have:=S.t4;omega
 exact S.tn h
theorem farB {w:WorldD} (C:Core w) {t:SubD} (ht:t∈w.b.subs):sideAt t.road.far=1/\sideAt t.road.own=2:=by
 obtain⟨s,h1,_,h3,_,_⟩:=(C.sb t ht).like
 have S:=C.sa s h1
 have g1:=S.own
 have g2:=S.far
 rw [h3] at g1 g2
 exact⟨g1,g2⟩
theorem Fa {w:WorldD} {x:LetterD} (C:Core w) (G:SmallP w.a.inp) (L:LetI w x) (hx:sideAt x.to=1):Step w (ff w (hear w.a x).1) (hear w.a x).2:=by
 have ok:=pn (x:=x) C.oka C.sta
 have M0:=MildA.refl C
 have keep:Step w (ff w w.a) []:=(M0.put C).step C fun _=>cL
 have hk:=hear (e:=w.a) (x:=x)
 by_cases hc:bL w.a x=true
 case neg=>rw [nq (by simpa using hc)];exact keep
 by_cases k1:x.kind=1
 ·rw [re hc k1,ay,if_neg]
  ·exact keep
  simp only [fF,KZ,decide_eq_true_eq];have:=C.sta;omega
 by_cases k2:x.kind=2
 ·rw [rf hc k2,aT,if_neg]
  ·exact keep
  simp only [ib,KZ,decide_eq_true_eq];have:=C.sta;omega
 by_cases k4:x.kind=4
 ·rw [nr hc k4] at ok⊢
  have hL:=L.a4 hx k4
  have ans:∀ (w':WorldD) (h:HalfD),Core w'->h∈w'.a.halfs->w'.a.key=w.a.key->w'.b.key=w.b.key->w'.b.draw=w.b.draw->Post w' (bP w.a (roadOf x) h):=by
   intro w' h C' hh e1 e2 e3
   have H:=C'.ha h hh
   have hm:=H.m4
   refine⟨.inr ?_,fun h0=>⟨rfl,H.th,rfl,fun s hs=>?_,fun t ht=>?_,fun k hk hq=>?_,⟨by simp only [bP,ae];omega,by simp only [bP,ae];omega⟩,fun n hn=>?_⟩⟩
   ·constructor<;>(intro q1 q2;simp only [bP,ae,aj] at q2;try omega)
    intro m hm'
    simp only [bP,ae] at hm'
    have:=congrArg TagD.one hm'
    dsimp only at this
    exact absurd (this.symm.trans e1.symm) (fun hc=>C'.kk (by rw [<-hc]))
   ·have S:=C'.sa s hs
    have h1:=H.sep s hs
    have t4:=S.t4
    simp only [bP,ae]
    refine⟨by rw [hm.2.2.2] at h1⊢;exact h1,zO,?_⟩
    rcases S.mine with g|⟨g,_⟩
    ·exact .inl g
    exact .inr ⟨zO,zO⟩
   ·have t4:=(C'.sb t ht).t4
    simp only [bP,ae]
    omega
   ·have m4:=(C'.hb k hk).m4
    simp only [bP,ae] at hq
    omega
   simp only [bP,ae] at hn
   constructor<;>intro _<;>omega
  unfold bs at ok⊢
  split at ok
  case isFalse hk=>rw [if_neg hk];exact keep
  rename_i hk
  rw [if_pos hk]
  split at ok
  ·rename_i hs
   rw [if_pos hs]
   simp only [dq,KZ,decide_eq_true_eq] at hs
   obtain⟨n,e1,hn,_⟩:=f7 hs.1.1
   have M:MildA w (ff w { w.a with bucket:=(bf w.a.bucket).1,halfs:=w.a.halfs.set (aJ w.a.halfs (roadOf x)).toNat { ld w.a x with till:=w.a.now+6 } }):=by
    refine⟨rfl,rfl,rfl,rfl,rfl,⟨[],by simp [ff]⟩,ok,⟨rfl,rfl,rfl,rfl⟩,SubsKeep.refl _,fun h hh=>?_,C.oa,C.fa,fun _ _ h=>h,C.oia,C.iia⟩
    rcases K7 hh with hh|hh
    ·exact⟨h,hh,HalfKeep.refl h⟩
    rw [hh,ld,e1,K4,df hn]
    exact⟨_,K0 hn,rfl,rfl,rfl,rfl,rfl⟩
   refine (M.put C).step C fun C'=>cN ?_
   have hj:ld w.a x=w.a.halfs[n]:=by rw [ld,e1,K4,df hn]
   have:=ans _ { ld w.a x with till:=w.a.now+6 } C' (by
    dsimp only [ff]
    rw [e1,K4]
    exact Lx hn _) rfl rfl rfl
   exact this
  rename_i hs
  rw [if_neg hs]
  simp only [ji,KZ,decide_eq_true_eq,cm] at hk
  have hd:=hk.1.1.2
  have da:=C.da
  have hput:∀ h∈(aF w.a.halfs (ai w.a x)).1,h=ai w.a x\/h∈w.a.halfs:=by
   intro h hh
   rw [aF] at hh;split at hh
   ·dsimp only at hh
    rw [a_] at hh;split at hh
    ·rcases K7 hh with hh|hh
     ·exact .inr hh
     exact .inl hh
    rcases K2.1 hh with hh|hh
    ·exact .inr hh
    exact .inl (K1.1 hh)
   exact .inr hh
  have P:PutA w (ff w { w.a with bucket:=(bf w.a.bucket).1,draw:=w.a.draw+4,halfs:=(aF w.a.halfs (ai w.a x)).1 }):=by
   refine⟨rfl,rfl,rfl,rfl,rfl,⟨[],by simp [ff]⟩,ok.1,ok.2,C.sia,rfl,rfl,⟨by dsimp only [ff];omega,by dsimp only [ff];omega⟩,fun s hs=>⟨s,hs,SubTo.refl s⟩,fun s hs=>?_,C.sad,fun h hh=>?_,C.oa,C.fa,fun _ _ h=>h,C.oia,C.iia⟩
   ·have S:=C.sa s hs
    exact⟨by have:=S.t4;dsimp only [ff];omega,S.tn,S.mine,S.own,S.far,S.th,S.on,S.ask⟩
   rcases hput h hh with rfl|hh
   ·refine⟨⟨by simp only [ai];omega,by simp only [ai];omega,by simp only [ai,ff];omega,by simp only [ai]⟩,fun s hs=>?_,hL⟩
    have:=(C.sa s hs).t4
    simp only [ai]
    omega
   have S:=C.ha h hh
   exact⟨by have:=S.m4;dsimp only [ff];omega,S.sep,S.th⟩
  refine P.step C fun C'=>cN ?_
  by_cases hin:ai w.a x∈(aF w.a.halfs (ai w.a x)).1
  ·exact ans _ _ C' hin rfl rfl rfl
  refine⟨.inr ?_,fun h0=>⟨rfl,hL,rfl,fun s hs=>?_,fun t ht=>?_,fun k hk hq=>?_,⟨by simp only [bP,ae,ai];omega,by simp only [bP,ae,ai];omega⟩,fun n hn=>?_⟩⟩
  ·constructor<;>(intro q1 q2;simp only [bP,ae,aj] at q2;try omega)
   intro m hm'
   simp only [bP,ae] at hm'
   have:=congrArg TagD.one hm'
   dsimp only [ff] at this
   exact absurd this C.kk
  ·have S:=C.sa s hs
   have t4:=S.t4
   simp only [bP,ae,ai]
   refine⟨zO,zO,?_⟩
   rcases S.mine with g|⟨g,_⟩
   ·exact .inl g
   exact .inr ⟨zO,zO⟩
  ·have t4:=(C.sb t ht).t4
   simp only [bP,ae,ai]
   omega
  ·have m4:=(C.hb k hk).m4
   simp only [bP,ae,ai] at hq
   omega
  simp only [bP,ae,ai] at hn
  dsimp only [ff]
  constructor<;>intro _<;>omega
 by_cases k5:x.kind=5
 ·rw [nu hc k5] at ok⊢
  unfold aC at ok⊢
  split at ok
  case isFalse hk=>rw [if_neg hk];exact keep
  rename_i hk
  rw [if_pos hk]
  simp only [l_,KZ,decide_eq_true_eq] at hk
  obtain⟨⟨⟨⟨⟨q1,q2⟩,q3⟩,q4⟩,q5⟩,q6⟩:=hk
  obtain⟨n,e1,hn,_,hrd,_⟩:=iA q4
  rw [e1,K4,br hn] at q5 q6 ok⊢
  rw [C.pa] at q6
  have hs:=K0 hn
  obtain⟨s,es⟩:∃ s,w.a.subs[n]=s:=⟨_,rfl⟩
  rw [es] at q5 q6 hs hrd ok⊢
  have S:=C.sa s hs
  have h1000:=S.ask (.inl q5)
  have hf:x.nonce < w.b.draw/\∀ h∈w.b.halfs,h.mine=x.nonce->h.theirs=s.mine/\h.take=x.give/\h.road=bk (roadOf x):=by
   rcases L.a5 hx k5 s.mine q6 with g|g
   ·exact absurd g (Bz C hs h1000)
   exact g
  have hat:∀ (i:Nat) (h1:i < (w.a.subs.set n (de s x)).length) (h2:i < w.a.subs.length),SubTo w.a.subs[i] (w.a.subs.set n (de s x))[i]/\((w.a.subs.set n (de s x))[i]=de s x\/(w.a.subs.set n (de s x))[i]=w.a.subs[i]):=by
   intro i h1 h2
   rw [Lb]
   split
   ·rename_i e;subst e
    rw [es]
    exact⟨⟨rfl,rfl,rfl,fun h=>absurd q5 h⟩,.inl rfl⟩
   exact⟨SubTo.refl _,.inr rfl⟩
  have hmem:de s x∈w.a.subs.set n (de s x):=Lx hn _
  have P:PutA w (ff w { w.a with subs:=w.a.subs.set n (de s x) }):=by
   refine⟨rfl,rfl,rfl,rfl,rfl,⟨[],by simp [ff]⟩,ok.1,ok.2,C.sia,rfl,rfl,⟨C.da.1,K3 _⟩,fun r hr=>?_,fun r hr=>?_,?_,fun h hh=>?_,C.oa,C.fa,fun _ _ h=>h,C.oia,C.iia⟩
   ·obtain⟨i,hi,rfl⟩:=K6 hr
    exact⟨_,K0 (by simpa [ff] using hi),(hat i (by simpa using hi) hi).1⟩
   ·rcases K7 hr with hr|hr
    ·exact C.sa r hr
    rw [hr]
    refine⟨S.t4,S.tn,S.mine,S.own,S.far,⟨hf.1,fun h hh hm=>?_⟩,fun h3=>by simp [de] at h3,fun _=>h1000⟩
    obtain⟨g1,g2,g3⟩:=hf.2 h hh hm
    rw [<-hrd] at g3
    exact⟨g1,g2,g3⟩
   ·have p:=C.sad
    rw [K5] at p⊢
    intro i j hi hj hij
    dsimp only [ff] at hi hj⊢
    have hi':i < w.a.subs.length:=by simpa using hi
    have hj':j < w.a.subs.length:=by simpa using hj
    rw [(hat i hi hi').1.take,(hat j hj hj').1.take]
    exact p i j hi' hj' hij
   have H:=C.ha h hh
   refine⟨H.m4,fun r hr=>?_,H.th⟩
   rcases K7 hr with hr|hr
   ·exact H.sep r hr
   rw [hr];exact H.sep s hs
  refine P.step C fun C'=>cN ⟨.inr ?_,fun h0=>?_⟩
  ·constructor<;>(intro p1 p2;simp only [bi,ae,aj] at p2;try omega)
   ·intro m n hm
    have:sideAt s.road.far=1:=p1
    have:=S.far
    omega
   intro m n hm
   simp only [bi,ae,ff] at hm
   injection hm with _ _ _ hm hn'
   exact⟨de s x,hmem,by simp [de],h1000,hm.symm,hn'.symm,rfl⟩
  have:sideAt s.road.far=0:=h0
  have:=S.far
  omega
 by_cases k6:x.kind=6
 ·rw [nv hc k6]
  have hno:=L.a6 hx k6
  have hA:oe w.a x=false:=by
   cases hj:oe w.a x with
   |false=>rfl
   |true=>
    simp only [oe,KZ,decide_eq_true_eq] at hj
    rw [C.pa] at hj
    exact absurd hj.2 (hno _ _)
  have hB:Cj w.a x=false:=by
   cases hj:Cj w.a x with
   |false=>rfl
   |true=>
    simp only [Cj,KZ,decide_eq_true_eq] at hj
    rw [C.pa] at hj
    exact absurd hj.2 (hno _ _)
  by_cases hI:kB w.a x=true
  ·rw [Ew hI hA hB];exact keep
  rw [HW (by simpa using hI)];exact keep
 by_cases k7:x.kind=7
 ·rw [ny hc k7] at ok⊢
  unfold aE at ok⊢
  dsimp only at ok⊢
  split at ok
  case isFalse hk=>rw [if_neg hk];exact keep
  rename_i hk
  rw [if_pos hk]
  simp only [iu,KZ,decide_eq_true_eq] at hk
  obtain⟨⟨⟨⟨q1,q2⟩,q3⟩,q4⟩,q5⟩:=hk
  obtain⟨n,e1,hn,_,hr,_⟩:=iA q3
  rw [e1,K4] at q4 q5 ok⊢
  rw [br hn] at q4 q5
  rw [cZ hn] at ok⊢
  obtain⟨s,es⟩:∃ s,w.a.subs[n]=s:=⟨_,rfl⟩
  have hs:=K0 hn
  rw [es] at q4 q5 hs hr ok⊢
  have S:=C.sa s hs
  have hon:∃ t∈w.b.subs,t.road=bk s.road/\t.take=s.give/\t.give=s.take:=by
   rcases L.a7 hx k7 with g|⟨t,g1,g2⟩
   ·rw [<-q5] at g;exact absurd g (By C hs)
   obtain⟨r,r1,r2,r3,r4,r5⟩:=(C.sb t g1).like
   have:r=s:=iB C.sad r1 hs (by rw [r4,g2,q5])
   subst this
   exact⟨t,g1,by rw [r3];rfl,r5.symm,r4.symm⟩
  have hat:∀ (i:Nat) (h1:i < (w.a.subs.set n { s with state:=3 }).length) (h2:i < w.a.subs.length),SubTo w.a.subs[i] (w.a.subs.set n { s with state:=3 })[i]:=by
   intro i h1 h2
   rw [Lb]
   split
   ·rename_i e;subst e
    rw [es]
    exact⟨rfl,rfl,rfl,fun h=>⟨zP,rfl,rfl⟩⟩
   exact SubTo.refl _
  refine PutA.step ⟨rfl,rfl,rfl,rfl,rfl,⟨[],by simp [ff]⟩,ok.1,ok.2,C.sia,rfl,rfl,⟨C.da.1,K3 _⟩,fun r hr=>?_,fun r hr=>?_,?_,fun h hh=>?_,C.oa,C.fa,fun _ _ h=>h,C.oia,C.iia⟩ C fun _=>cL
  ·obtain⟨i,hi,rfl⟩:=K6 hr
   exact⟨_,K0 (by simpa [ff] using hi),hat i (by simpa using hi) hi⟩
  ·rcases K7 hr with hr|hr
   ·exact C.sa r hr
   rw [hr]
   exact⟨S.t4,S.tn,S.mine,S.own,S.far,S.th,fun _=>hon,fun h=>by simp at h⟩
  ·have p:=C.sad
   rw [K5] at p⊢
   intro i j hi hj hij
   dsimp only [ff] at hi hj⊢
   have hi':i < w.a.subs.length:=by simpa using hi
   have hj':j < w.a.subs.length:=by simpa using hj
   rw [(hat i hi hi').take,(hat j hj hj').take]
   exact p i j hi' hj' hij
  have H:=C.ha h hh
  refine⟨H.m4,fun r hr=>?_,H.th⟩
  rcases K7 hr with hr|hr
  ·exact H.sep r hr
  rw [hr];exact H.sep s hs
 by_cases k8:x.kind=8
 ·rw [rg hc k8] at ok⊢
  unfold bH at ok⊢
  split at ok
  case isFalse hk=>rw [if_neg hk];exact keep
  rename_i hk
  rw [if_pos hk]
  simp only [gk,KZ,decide_eq_true_eq] at hk
  obtain⟨⟨⟨⟨q1,q2⟩,_⟩,_⟩,_⟩:=hk
  rw [C.pa] at q2
  obtain⟨t1,t2⟩:=L.a8 hx k8 _ _ q2
  obtain⟨n,e1,_,hn,_,_,hr,_⟩:=vI q1
  refine PutA.step (MildA.put ⟨rfl,rfl,rfl,rfl,rfl,⟨[],by simp [ff]⟩,ok,⟨rfl,rfl,rfl,rfl⟩,SubsKeep.refl _,fun h hh=>⟨h,hh,HalfKeep.refl h⟩,C.oa,fun f hf=>?_,fun _ _ h=>h,C.oia,C.iia⟩ C) C fun C'=>cN (kz (by simp [oR,og,ae]) ?_)
  ·rcases dO hf with rfl|hf
   ·exact⟨t1,t2⟩
   exact C.fa f hf
  show ¬ sideAt (roadOf x).far=0
  rw [<-hr]
  have:=(C.sa _ (K0 hn)).far
  omega
 by_cases k9:x.kind=9
 ·rw [rh hc k9] at ok⊢
  unfold bI at ok⊢
  dsimp only at ok⊢
  split at ok
  case isFalse hk=>rw [if_neg hk];exact keep
  rename_i hk
  rw [if_pos hk]
  simp only [fw,KZ,decide_eq_true_eq] at hk
  obtain⟨n,e1,hn,_⟩:=jW hk.1.2
  rw [e1,K4,eX hn] at ok⊢
  refine PutA.step (MildA.put ⟨rfl,rfl,rfl,rfl,rfl,⟨[],by simp [ff]⟩,ok,⟨rfl,rfl,rfl,rfl⟩,SubsKeep.refl _,fun h hh=>⟨h,hh,HalfKeep.refl h⟩,fun q hq=>?_,C.fa,fun i d h=>?_,C.oia,C.iia⟩ C) C fun _=>cL
  ·rcases K7 hq with hq|hq
   ·exact C.oa q hq
   rw [hq];exact (show sideAt w.a.own[n].addr=1 from C.oa _ (K0 hn))
  rcases h with⟨q,h1,h2,h3⟩|h
  ·obtain⟨j,hj,rfl⟩:=K6 h1
   by_cases hjn:n=j
   ·subst hjn
    exact .inl ⟨_,Lx hn _,h2,h3⟩
   refine .inl ⟨w.a.own[j],?_,h2,h3⟩
   dsimp only [ff]
   rw [Ls]
   exact⟨j,by simpa using hj,by rw [Mh hjn]⟩
  exact .inr h
 by_cases k10:x.kind=10
 ·rw [mg hc k10] at ok⊢
  unfold bJ at ok⊢
  dsimp only at ok⊢
  split at ok
  case isFalse hk=>rw [if_neg hk];exact keep
  rename_i hk
  rw [if_pos hk]
  refine PutA.step (MildA.put ⟨rfl,rfl,rfl,rfl,rfl,⟨[],by simp [ff]⟩,ok,⟨rfl,rfl,rfl,rfl⟩,SubsKeep.map fun s hs=>?_,fun h hh=>⟨h,hh,HalfKeep.refl h⟩,C.oa,fun f hf=>C.fa f (fd hf),fun _ _ h=>h,C.oia,C.iia⟩ C) C fun _=>cL
  rw [je];split
  ·exact⟨rfl,rfl,rfl,rfl,rfl,.inr rfl⟩
  exact SubKeep.refl s
 by_cases k11:x.kind=11
 ·rw [mh hc k11] at ok⊢
  unfold bK at ok⊢
  split at ok
  case isFalse hk=>rw [if_neg hk];exact keep
  rename_i hk
  rw [if_pos hk]
  simp only [jM,KZ,decide_eq_true_eq] at hk
  obtain⟨n,e1,_,hn,_,ht,hr,_⟩:=vI hk.1
  have hsl:Slice w.wroteB x.pos x.text:=by
   rcases L.a11 hx k11 with g|g
   ·rw [<-ht] at g;exact absurd g (By C (K0 hn))
   exact g
  refine PutA.step (MildA.put ⟨rfl,rfl,rfl,rfl,rfl,⟨[],by simp [ff]⟩,ok,⟨rfl,rfl,rfl,rfl⟩,SubsKeep.refl _,fun h hh=>⟨h,hh,HalfKeep.refl h⟩,C.oa,C.fa,fun _ _ h=>h,C.oia,r9 C.iia G hsl⟩ C) C fun C'=>cN (kz (by simp [oR,qT,ae]) ?_)
  show ¬ sideAt (roadOf x).far=0
  rw [<-hr]
  have:=(C.sa _ (K0 hn)).far
  omega
 by_cases k12:x.kind=12
 ·rw [mi hc k12] at ok⊢
  unfold bB at ok⊢
  dsimp only at ok⊢
  split at ok
  case isFalse hk=>rw [if_neg hk];exact keep
  rename_i hk
  rw [if_pos hk]
  exact PutA.step (MildA.put ⟨rfl,rfl,rfl,rfl,rfl,⟨[],by simp [ff]⟩,ok,⟨rfl,rfl,rfl,rfl⟩,SubsKeep.refl _,fun h hh=>⟨h,hh,HalfKeep.refl h⟩,C.oa,C.fa,fun _ _ h=>h,E9 C.oia,C.iia⟩ C) C fun _=>cL
 by_cases k13:x.kind=13
 ·rw [mj hc k13] at ok⊢
  unfold bg at ok⊢
  dsimp only at ok⊢
  split at ok
  case isFalse hk=>rw [if_neg hk];exact keep
  rename_i hk
  rw [if_pos hk]
  exact PutA.step (MildA.put ⟨rfl,rfl,rfl,rfl,rfl,⟨[],by simp [ff]⟩,ok,⟨rfl,rfl,rfl,rfl⟩,SubsKeep.st4 _ _,fun h hh=>⟨h,hh,HalfKeep.refl h⟩,C.oa,C.fa,fun _ _ h=>h,C.oia,C.iia⟩ C) C fun _=>cL
 rw [vq fun k hk=>by omega];exact keep
theorem BA {l:List HalfD} {n:Nat} {q:HalfD} (p:l.Pairwise fun h k=>¬ h.take=k.take) (hq:∀ (i:Nat) (hi:i < l.length),¬ i=n->¬ l[i].take=q.take):(l.set n q).Pairwise fun h k=>¬ h.take=k.take:=by
 rw [K5] at p⊢
 intro i j hi hj hij
 have hi':i < l.length:=by simpa using hi
 have hj':j < l.length:=by simpa using hj
 rw [Lb,Lb]
 by_cases h1:n=i
 ·rw [if_pos h1,if_neg zO]
  exact fun hc=>hq j hj' zO hc.symm
 rw [if_neg h1]
 by_cases h2:n=j
 ·rw [if_pos h2];exact hq i hi' zO
 rw [if_neg h2];exact p i j hi' hj' hij
theorem Fb {l:List HalfD} (h:l.Pairwise fun s t=>¬ s.take=t.take) {s t:HalfD} (hs:s∈l) (ht:t∈l) (e:s.take=t.take):s=t:=by
 obtain⟨i,hi,rfl⟩:=K6 hs
 obtain⟨j,hj,rfl⟩:=K6 ht
 rw [K5] at h
 rcases Lu i j with hl|hl|hl
 ·exact absurd e (h i j hi hj hl)
 ·subst hl;rfl
 exact absurd e.symm (h j i hj hi hl)
theorem Fc {w:WorldD} {x:LetterD} (C:Core w) (G:SmallP w.b.inp) (L:LetI w x) (hx:sideAt x.to=2):Step w (inB w (hear w.b x).1) (hear w.b x).2:=by
 have ok:=pn (x:=x) C.okb C.stb
 have M0:=MildB.refl C
 have keep:Step w (inB w w.b) []:=(M0.put C).step C fun _=>cL
 by_cases hc:bL w.b x=true
 case neg=>rw [nq (by simpa using hc)];exact keep
 by_cases k1:x.kind=1
 ·rw [re hc k1,ay,if_neg]
  ·exact keep
  simp only [fF,KZ,decide_eq_true_eq];have:=C.stb;omega
 by_cases k2:x.kind=2
 ·rw [rf hc k2,aT,if_neg]
  ·exact keep
  simp only [ib,KZ,decide_eq_true_eq];have:=C.stb;omega
 by_cases k4:x.kind=4
 ·rw [nr hc k4] at ok⊢
  have hL:=L.b4 hx k4
  have ans:∀ (w':WorldD) (h:HalfD),Core w'->HalfB w'.nums w'.b.draw w'.a.subs w'.b.subs h->h.road=roadOf x->(∀ k∈w'.b.halfs,k.mine=h.mine->k.theirs=h.theirs/\k.take=h.take/\k.road=h.road)->(∀ k∈w'.b.halfs,k.take=h.take->k.theirs=h.theirs)->w'.a.key=w.a.key->w'.b.key=w.b.key->Post w' (bP w.b (roadOf x) h):=by
   intro w' h C' H hr hone htk e1 e2
   have hm:=H.m4
   refine⟨.inr ?_,fun h0=>?_⟩
   ·constructor<;>(intro q1 q2;simp only [bP,ae,aj] at q2;try omega)
    intro m hm'
    simp only [bP,ae] at hm'
    injection hm' with _ _ _ _ hb
    refine .inr ⟨by simp only [bP,ae];omega,fun k hk hkm=>?_⟩
    obtain⟨g1,g2,g3⟩:=hone k hk hkm
    exact⟨by rw [g1,hb],g2,by rw [g3,hr];rfl⟩
   have hth:Loose w'.nums h.theirs:=by
    rcases H.th with g|⟨_,s,s1,_,_,_,s5⟩
    ·exact g
    have:=(C'.sa s s1).own
    rw [s5,hr] at this
    have h0':sideAt (roadOf x).far=0:=h0
    have:sideAt (roadOf x).far=1:=this
    omega
   refine⟨rfl,hth,rfl,fun s hs=>?_,fun t ht=>?_,fun k hk hq=>?_,⟨by simp only [bP,ae];omega,by simp only [bP,ae];omega⟩,fun n hn=>?_⟩
   ·have S:=C'.sa s hs
    have t4:=S.t4
    simp only [bP,ae]
    refine⟨zO,zO,?_⟩
    rcases S.mine with g|⟨g,_⟩
    ·exact .inl g
    exact .inr ⟨zO,zO⟩
   ·have t4:=(C'.sb t ht).t4
    have:=H.sep t ht
    simp only [bP,ae]
    exact⟨this,zO⟩
   ·have m4:=(C'.hb k hk).m4
    simp only [bP,ae] at hq
    rcases hq with hq|hq
    ·rw [htk k hk hq];exact hth
    omega
   simp only [bP,ae] at hn
   constructor<;>intro _<;>omega
  unfold bs at ok⊢
  split at ok
  case isFalse hk=>rw [if_neg hk];exact keep
  rename_i hk
  rw [if_pos hk]
  split at ok
  ·rename_i hs
   rw [if_pos hs]
   simp only [dq,KZ,decide_eq_true_eq] at hs
   obtain⟨n,e1,hn,hrd⟩:=f7 hs.1.1
   have hj:ld w.b x=w.b.halfs[n]:=by rw [ld,e1,K4,df hn]
   rw [hj,e1,K4] at ok⊢
   obtain⟨q,hq⟩:∃ q,w.b.halfs[n]=q:=⟨_,rfl⟩
   have hqm:=K0 hn
   rw [hq] at ok hrd hqm⊢
   have H:=C.hb q hqm
   have hold:∀ k∈w.b.halfs.set n { q with till:=w.b.now+6 },∃ h∈w.b.halfs,HalfKeep h k:=by
    intro k hk
    rcases K7 hk with hk|hk
    ·exact⟨k,hk,HalfKeep.refl k⟩
    rw [hk];exact⟨q,hqm,rfl,rfl,rfl,rfl,rfl⟩
   have HB:∀ k,(∃ h∈w.b.halfs,HalfKeep h k)->HalfB w.nums w.b.draw w.a.subs w.b.subs k:=by
    rintro k ⟨h,h1,h2,h3,h4,h5,h6⟩
    have S:=C.hb h h1
    exact⟨by rw [<-h2,<-h4];exact S.m4,by rw [<-h4];exact S.sep,by rw [<-h3,<-h4,<-h5,<-h6];exact S.th⟩
   have P:PutB w (inB w { w.b with bucket:=(bf w.b.bucket).1,halfs:=w.b.halfs.set n { q with till:=w.b.now+6 } }):=by
    refine⟨rfl,rfl,rfl,rfl,rfl,⟨[],by simp [inB]⟩,ok.1,ok.2,C.sib,rfl,rfl,⟨C.db.1,K3 _⟩,fun t ht=>⟨t,ht,rfl,rfl,rfl⟩,C.sb,fun h hh=>HB h (hold h hh),?_,fun h hh=>?_,C.ob,C.fb,fun _ _ h=>h,C.oib,C.iib⟩
    ·refine BA C.hbd fun i hi hin=>?_
     have p:=C.hbd
     rw [K5] at p
     dsimp only
     rw [<-hq]
     rcases LZ hin with hl|hl
     ·exact p i n hi hn hl
     exact fun hc=>p n i hn hi hl hc.symm
    obtain⟨k,g1,g2,g3,g4,g5,_⟩:=hold h hh
    exact .inr ⟨k,g1,g2,g3,g4,g5⟩
   refine P.step C fun C'=>cN ?_
   have h1:∀ k∈w.b.halfs.set n { q with till:=w.b.now+6 },k.take=q.take->k.theirs=q.theirs/\k.take=q.take/\k.road=q.road:=by
    intro k hk ht
    obtain⟨h,g1,g2,g3,g4,g5,_⟩:=hold k hk
    have:h=q:=Fb C.hbd g1 hqm (by rw [g4,ht])
    subst this
    exact⟨g3.symm,g4.symm,g5.symm⟩
   refine ans _ q C' H hrd (fun k hk hm=>?_) (fun k hk ht=>(h1 k hk ht).1) rfl rfl
   have m1:=(HB k (hold k hk)).m4
   have m2:=H.m4
   exact h1 k hk zO
  rename_i hs
  rw [if_neg hs]
  simp only [ji,KZ,decide_eq_true_eq,cm] at hk
  have hd:=hk.1.1.2
  have db:=C.db
  have hnew:HalfB w.nums (w.b.draw+4) w.a.subs w.b.subs (ai w.b x):=by
   refine⟨⟨by simp only [ai];omega,by simp only [ai];omega,by simp only [ai];omega,by simp only [ai]⟩,fun t ht=>?_,?_⟩
   ·have:=(C.sb t ht).t4
    simp only [ai]
    omega
   rcases hL with g|⟨s,g1,g2,g3,g4,g5⟩
   ·exact .inl g
   refine .inr ⟨fun hc=>?_,s,g1,g2,g3.symm,g4.symm,?_⟩
   ·have:=(C.nn _ hc).2 (by simp only [ai];omega)
    simp only [ai] at this
    omega
   simp only [ai];rw [g5];rfl
  have hput:(∀ h∈(aF w.b.halfs (ai w.b x)).1,h=ai w.b x\/h∈w.b.halfs)/\(aF w.b.halfs (ai w.b x)).1.Pairwise fun h k=>¬ h.take=k.take:=by
   have hne:∀ h∈w.b.halfs,¬ h.take=(ai w.b x).take:=fun h hh=>by
    have:=(C.hb h hh).m4
    simp only [ai]
    omega
   rw [aF];split
   ·dsimp only
    rw [a_];split
    ·refine⟨fun h hh=>?_,BA C.hbd fun i hi _=>hne _ (K0 hi)⟩
     rcases K7 hh with hh|hh
     ·exact .inr hh
     exact .inl hh
    refine⟨fun h hh=>?_,?_⟩
    ·rcases K2.1 hh with hh|hh
     ·exact .inr hh
     exact .inl (K1.1 hh)
    rw [Ln]
    exact⟨C.hbd,Ld ..,fun a ha b hb=>by rw [K1.1 hb];exact hne a ha⟩
   exact⟨fun h hh=>.inr hh,C.hbd⟩
  have P:PutB w (inB w { w.b with bucket:=(bf w.b.bucket).1,draw:=w.b.draw+4,halfs:=(aF w.b.halfs (ai w.b x)).1 }):=by
   refine⟨rfl,rfl,rfl,rfl,rfl,⟨[],by simp [inB]⟩,ok.1,ok.2,C.sib,rfl,rfl,⟨by dsimp only [inB];omega,by dsimp only [inB];omega⟩,fun t ht=>⟨t,ht,rfl,rfl,rfl⟩,fun t ht=>?_,fun h hh=>?_,hput.2,fun h hh=>?_,C.ob,C.fb,fun _ _ h=>h,C.oib,C.iib⟩
   ·have S:=C.sb t ht
    exact⟨by have:=S.t4;dsimp only [inB];omega,S.tn,S.st,S.like⟩
   ·rcases hput.1 h hh with rfl|hh
    ·exact hnew
    have S:=C.hb h hh
    exact⟨by have:=S.m4;dsimp only [inB];omega,S.sep,S.th⟩
   rcases hput.1 h hh with rfl|hh
   ·exact .inl (K3 _)
   exact .inr ⟨h,hh,rfl,rfl,rfl,rfl⟩
  refine P.step C fun C'=>cN ?_
  have h1:∀ k∈(aF w.b.halfs (ai w.b x)).1,k.take=(ai w.b x).take\/k.mine=(ai w.b x).mine->k=ai w.b x:=by
   intro k hk ht
   rcases hput.1 k hk with g|g
   ·exact g
   have:=(C.hb k g).m4
   simp only [ai] at ht
   omega
  exact ans _ (ai w.b x) C' hnew rfl (fun k hk hm=>by rw [h1 k hk (.inr hm)];exact⟨rfl,rfl,rfl⟩) (fun k hk ht=>by rw [h1 k hk (.inl ht)]) rfl rfl
 by_cases k5:x.kind=5
 ·rw [nu hc k5,HU]
  ·exact keep
  cases hj:l_ w.b x with
  |false=>rfl
  |true=>
   simp only [l_,KZ,decide_eq_true_eq] at hj
   obtain⟨⟨⟨_,q4⟩,q5⟩,_⟩:=hj
   obtain⟨n,e1,hn,_⟩:=iA q4
   rw [e1,K4,br hn] at q5
   have:=(C.sb _ (K0 hn)).st
   omega
 by_cases k6:x.kind=6
 ·rw [nv hc k6] at ok⊢
  have hL:=L.b6 hx k6
  unfold ao at ok⊢
  split at ok
  case isFalse hk=>rw [if_neg hk];exact keep
  rename_i hk
  rw [if_pos hk]
  split at ok
  ·rename_i ha
   rw [if_pos ha]
   simp only [oe,KZ,decide_eq_true_eq] at ha
   obtain⟨⟨a1,a2⟩,a3⟩:=ha
   obtain⟨i,e1,hi,hrd⟩:=f7 a1
   have hj:ld w.b x=w.b.halfs[i]:=by rw [ld,e1,K4,df hi]
   rw [hj] at a3 ok⊢
   obtain⟨q,hq⟩:∃ q,w.b.halfs[i]=q:=⟨_,rfl⟩
   have hqm:=K0 hi
   rw [hq] at a3 ok hrd hqm⊢
   have H:=C.hb q hqm
   rw [C.pb] at a3
   obtain⟨s,s1,s2,s3,s4,s5,s6⟩:=hL _ _ a3
   have S:=C.sa s s1
   obtain⟨g1,g2,g3⟩:=S.th.2 q hqm s5
   have hau:¬ q.take∈w.nums/\∃ s∈w.a.subs,1000<=s.mine/\s.mine=q.theirs/\s.take=q.give/\s.road=bk q.road:=by
    rcases H.th with g|g
    ·rw [s4] at g;exact absurd g (Bz C s1 s3)
    exact g
   obtain⟨hn,r,r1,r2,r3,r4,r5⟩:=hau
   have hrs:r=s:=by
    refine iB C.sad r1 s1 ?_
    have m1:=(C.sa r r1).mine
    have m2:=S.mine
    omega
   subst hrs
   have hdr:aS w.b.halfs (roadOf x)=w.b.halfs.take i++w.b.halfs.drop (i+1):=qo e1
   have hsub:(aS w.b.halfs (roadOf x)).Sublist w.b.halfs:=by rw [hdr];exact ku _ _
   have hoth:∀ k∈aS w.b.halfs (roadOf x),¬ k.take=q.take:=by
    intro k hk
    have p:=C.hbd
    rw [K5] at p
    rw [hdr] at hk
    rw [<-hq]
    rcases K2.1 hk with hk|hk
    ·rw [Lq] at hk
     obtain⟨j,hj,rfl⟩:=hk
     exact p j i zO hi zO
    rw [LG] at hk
    obtain⟨j,hj,rfl⟩:=hk
    exact fun hc=>p i (i+1+j) hi zO zO hc.symm
   obtain⟨l0,hl0⟩:∃ l0,(if 0<=aN w.b.subs (roadOf x) then ba w.b.subs (aN w.b.subs (roadOf x)).toNat 4 else w.b.subs)=l0:=⟨_,rfl⟩
   rw [hl0] at ok⊢
   have K:SubsKeep w.b.subs l0:=by
    rw [<-hl0];split
    ·exact SubsKeep.st4 _ _
    exact SubsKeep.refl _
   have hmem:dM (roadOf x) q∈l0++[dM (roadOf x) q]:=by simp
   have P:PutB w (inB w { w.b with subs:=l0++[dM (roadOf x) q],halfs:=aS w.b.halfs (roadOf x) }):=by
    refine⟨rfl,rfl,rfl,rfl,rfl,⟨[],by simp [inB]⟩,ok.1,ok.2,C.sib,rfl,rfl,⟨C.db.1,K3 _⟩,fun t ht=>?_,fun t ht=>?_,fun h hh=>?_,C.hbd.sublist hsub,fun h hh=>.inr ⟨h,hsub.subset hh,rfl,rfl,rfl,rfl⟩,C.ob,C.fb,fun _ _ h=>h,C.oib,C.iib⟩
    ·obtain⟨u,u1,u2⟩:=K.new ht
     exact⟨u,K_ _ u1,u2.road,u2.take,u2.give⟩
    ·rcases K2.1 ht with ht|ht
     ·obtain⟨u,u1,u2⟩:=K.old ht
      exact u2.subB (C.sb u u1)
     rw [K1.1 ht]
     have m4:=H.m4
     exact⟨by simp only [dM,inB];omega,hn,.inl rfl,r,r1,s2,by rw [r5,hrd];rfl,r4,g2.symm⟩
    have S':=C.hb h (hsub.subset hh)
    refine⟨S'.m4,fun t ht=>?_,S'.th⟩
    rcases K2.1 ht with ht|ht
    ·obtain⟨u,u1,u2⟩:=K.old ht
     rw [u2.take];exact S'.sep u u1
    rw [K1.1 ht]
    exact fun hc=>hoth h hh hc.symm
   refine P.step C fun C'=>cN ⟨.inr ?_,fun h0=>?_⟩
   ·constructor<;>(intro p1 p2;simp only [dU,ae,aj] at p2;try omega)
    exact .inr ⟨_,hmem,rfl⟩
   have h0':sideAt (roadOf x).far=0:=h0
   have h3:=(farB C' (t:=dM (roadOf x) q) hmem).1
   have h3':sideAt (roadOf x).far=1:=h3
   omega
  rename_i ha
  rw [if_neg ha]
  split at ok
  ·rename_i hb
   rw [if_pos hb]
   simp only [Cj,KZ,decide_eq_true_eq] at hb
   obtain⟨n,e1,hn,_,hr,_⟩:=iA hb.1.1
   have hj:FG w.b x=w.b.subs[n]:=by rw [FG,e1,K4,br hn]
   rw [hj]
   refine (M0.put C).step C fun C'=>cN ⟨.inr ?_,fun h0=>?_⟩
   ·constructor<;>(intro p1 p2;simp only [dU,ae,aj] at p2;try omega)
    exact .inr ⟨_,K0 hn,rfl⟩
   have h0':sideAt (roadOf x).far=0:=h0
   have h3:=(farB C (K0 hn)).1
   rw [hr] at h3
   omega
  rename_i hb
  rw [if_neg hb];exact keep
 by_cases k7:x.kind=7
 ·rw [ny hc k7,He]
  ·exact keep
  cases hj:iu w.b x with
  |false=>rfl
  |true=>
   simp only [iu,KZ,decide_eq_true_eq] at hj
   obtain⟨⟨⟨_,q3⟩,q4⟩,_⟩:=hj
   obtain⟨n,e1,hn,_⟩:=iA q3
   rw [e1,K4,br hn] at q4
   have:=(C.sb _ (K0 hn)).st
   omega
 by_cases k8:x.kind=8
 ·rw [rg hc k8] at ok⊢
  unfold bH at ok⊢
  split at ok
  case isFalse hk=>rw [if_neg hk];exact keep
  rename_i hk
  rw [if_pos hk]
  simp only [gk,KZ,decide_eq_true_eq] at hk
  obtain⟨⟨⟨⟨q1,q2⟩,_⟩,_⟩,_⟩:=hk
  rw [C.pb] at q2
  obtain⟨t1,t2⟩:=L.b8 hx k8 _ _ q2
  obtain⟨n,e1,_,hn,_,_,hr,_⟩:=vI q1
  refine PutB.step (MildB.put ⟨rfl,rfl,rfl,rfl,rfl,⟨[],by simp [inB]⟩,ok,⟨rfl,rfl,rfl,rfl⟩,SubsKeep.refl _,List.Sublist.refl _,C.ob,fun f hf=>?_,fun _ _ h=>h,C.oib,C.iib⟩ C) C fun C'=>cN (kz (by simp [oR,og,ae]) ?_)
  ·rcases dO hf with rfl|hf
   ·exact⟨t1,t2⟩
   exact C.fb f hf
  show ¬ sideAt (roadOf x).far=0
  rw [<-hr]
  have:=(farB C (K0 hn)).1
  omega
 by_cases k9:x.kind=9
 ·rw [rh hc k9] at ok⊢
  unfold bI at ok⊢
  dsimp only at ok⊢
  split at ok
  case isFalse hk=>rw [if_neg hk];exact keep
  rename_i hk
  rw [if_pos hk]
  simp only [fw,KZ,decide_eq_true_eq] at hk
  obtain⟨n,e1,hn,_⟩:=jW hk.1.2
  rw [e1,K4,eX hn] at ok⊢
  refine PutB.step (MildB.put ⟨rfl,rfl,rfl,rfl,rfl,⟨[],by simp [inB]⟩,ok,⟨rfl,rfl,rfl,rfl⟩,SubsKeep.refl _,List.Sublist.refl _,fun q hq=>?_,C.fb,fun i d h=>?_,C.oib,C.iib⟩ C) C fun _=>cL
  ·rcases K7 hq with hq|hq
   ·exact C.ob q hq
   rw [hq];exact (show sideAt w.b.own[n].addr=2 from C.ob _ (K0 hn))
  rcases h with⟨q,h1,h2,h3⟩|h
  ·obtain⟨j,hj,rfl⟩:=K6 h1
   by_cases hjn:n=j
   ·subst hjn
    exact .inl ⟨_,Lx hn _,h2,h3⟩
   refine .inl ⟨w.b.own[j],?_,h2,h3⟩
   dsimp only [inB]
   rw [Ls]
   exact⟨j,by simpa using hj,by rw [Mh hjn]⟩
  exact .inr h
 by_cases k10:x.kind=10
 ·rw [mg hc k10] at ok⊢
  unfold bJ at ok⊢
  dsimp only at ok⊢
  split at ok
  case isFalse hk=>rw [if_neg hk];exact keep
  rename_i hk
  rw [if_pos hk]
  refine PutB.step (MildB.put ⟨rfl,rfl,rfl,rfl,rfl,⟨[],by simp [inB]⟩,ok,⟨rfl,rfl,rfl,rfl⟩,SubsKeep.map fun s hs=>?_,List.Sublist.refl _,C.ob,fun f hf=>C.fb f (fd hf),fun _ _ h=>h,C.oib,C.iib⟩ C) C fun _=>cL
  rw [je];split
  ·exact⟨rfl,rfl,rfl,rfl,rfl,.inr rfl⟩
  exact SubKeep.refl s
 by_cases k11:x.kind=11
 ·rw [mh hc k11] at ok⊢
  unfold bK at ok⊢
  split at ok
  case isFalse hk=>rw [if_neg hk];exact keep
  rename_i hk
  rw [if_pos hk]
  simp only [jM,KZ,decide_eq_true_eq] at hk
  obtain⟨n,e1,_,hn,_,ht,hr,_⟩:=vI hk.1
  have hsl:Slice w.wroteA x.pos x.text:=by
   rcases L.b11 hx k11 with g|g
   ·rw [<-ht] at g;exact absurd g (GK C (K0 hn))
   exact g
  refine PutB.step (MildB.put ⟨rfl,rfl,rfl,rfl,rfl,⟨[],by simp [inB]⟩,ok,⟨rfl,rfl,rfl,rfl⟩,SubsKeep.refl _,List.Sublist.refl _,C.ob,C.fb,fun _ _ h=>h,C.oib,r9 C.iib G hsl⟩ C) C fun C'=>cN (kz (by simp [oR,qT,ae]) ?_)
  show ¬ sideAt (roadOf x).far=0
  rw [<-hr]
  have:=(farB C (K0 hn)).1
  omega
 by_cases k12:x.kind=12
 ·rw [mi hc k12] at ok⊢
  unfold bB at ok⊢
  dsimp only at ok⊢
  split at ok
  case isFalse hk=>rw [if_neg hk];exact keep
  rename_i hk
  rw [if_pos hk]
  exact PutB.step (MildB.put ⟨rfl,rfl,rfl,rfl,rfl,⟨[],by simp [inB]⟩,ok,⟨rfl,rfl,rfl,rfl⟩,SubsKeep.refl _,List.Sublist.refl _,C.ob,C.fb,fun _ _ h=>h,E9 C.oib,C.iib⟩ C) C fun _=>cL
 by_cases k13:x.kind=13
 ·rw [mj hc k13] at ok⊢
  unfold bg at ok⊢
  dsimp only at ok⊢
  split at ok
  case isFalse hk=>rw [if_neg hk];exact keep
  rename_i hk
  rw [if_pos hk]
  exact PutB.step (MildB.put ⟨rfl,rfl,rfl,rfl,rfl,⟨[],by simp [inB]⟩,ok,⟨rfl,rfl,rfl,rfl⟩,SubsKeep.st4 _ _,List.Sublist.refl _,C.ob,C.fb,fun _ _ h=>h,C.oib,C.iib⟩ C) C fun _=>cL
 rw [vq fun k hk=>by omega];exact keep
def Sent (w:WorldD) (l:List LetterD):Prop:=∀ x∈l,¬ sideAt x.to=0/\LetI w x
theorem Sent.post {w:WorldD} {l:List LetterD} (h:Sent w l):∀ x∈l,Post w x:=fun x hx=>⟨.inr (h x hx).2,fun h0=>absurd h0 (h x hx).1⟩
theorem Sent.mono {w w':WorldD} {l:List LetterD} (h:Sent w l) (L:Le w w'):Sent w' l:=fun x hx=>⟨(h x hx).1,(h x hx).2.mono L⟩
theorem eh {w:WorldD}:Sent w []:=fun x hx=>by simp at hx
theorem jX {w:WorldD} {x:LetterD} (h1:¬ sideAt x.to=0) (h2:LetI w x):Sent w [x]:=fun y hy=>by rw [K1.1 hy];exact⟨h1,h2⟩
theorem jY {w:WorldD} {l m:List LetterD} (h:Sent w l) (g:Sent w m):Sent w (l++m):=fun x hx=>(K2.1 hx).elim (h x) (g x)
theorem kA {w:WorldD} {x:LetterD} (hk:oR x.kind):LetI w x:=by
  simp only [oR] at hk
  constructor<;>(intro _ h;omega)
theorem SubTo.trans {a b c:SubD} (h:SubTo a b) (g:SubTo b c):SubTo a c:=⟨g.road.trans h.road,g.mine.trans h.mine,g.take.trans h.take,fun h1=>by
  obtain⟨p1,p2,p3⟩:=h.rest h1
  obtain⟨q1,q2,q3⟩:=g.rest p1
  exact⟨q1,q2.trans p2,q3.trans p3⟩⟩
theorem Le.trans {a b c:WorldD} (h:Le a b) (g:Le b c):Le a c:=by
  refine⟨g.ka.trans h.ka,g.kb.trans h.kb,fun n hn=>g.nums n (h.nums n hn),fun s hs=>?_,fun t ht=>?_,Lt h.db g.db,fun k hk=>?_,fun i d q=>g.ta i d (h.ta i d q),fun i d q=>g.tb i d (h.tb i d q),?_,?_⟩
  · obtain⟨r,r1,r2⟩:=h.sa s hs
    obtain⟨u,u1,u2⟩:=g.sa r r1
    exact⟨u,u1,r2.trans u2⟩
  · obtain⟨r,r1,r2⟩:=h.sb t ht
    obtain⟨u,u1,u2⟩:=g.sb r r1
    exact⟨u,u1,u2.trans r2⟩
  · rcases g.hb k hk with q|⟨r,r1,r2,r3,r4,r5⟩
    · exact .inl (Lt h.db q)
    · rcases h.hb r r1 with q|⟨u,u1,u2,u3,u4,u5⟩
      · exact .inl zO
      · exact .inr ⟨u,u1,u2.trans r2,u3.trans r3,u4.trans r4,u5.trans r5⟩
  · obtain⟨t,e⟩:=h.wa;obtain⟨u,f⟩:=g.wa
    exact⟨t++u,by rw [f,e,LN]⟩
  · obtain⟨t,e⟩:=h.wb;obtain⟨u,f⟩:=g.wb
    exact⟨t++u,by rw [f,e,LN]⟩
structure Go1 (w w':WorldD) (l:List LetterD):Prop where
  c:Core w'
  le:Le w w'
  s:Sent w' l
theorem Go1.trans {a b c:WorldD} {l m:List LetterD} (h:Go1 a b l) (g:Go1 b c m):Go1 a c (l++m):=⟨g.c,h.le.trans g.le,jY (h.s.mono g.le) g.s⟩
theorem Go1.step {w w':WorldD} {l:List LetterD} (h:Go1 w w' l):Step w w' l:=⟨h.c,h.le,h.s.post⟩
theorem oI {l:List AddrD} {a b:AddrD} (h:aB l a.id < 0) (hb:b∈l):b∈(aA l a).1:=by
  rw [aA];split
  · dsimp only
    rw [bF,if_neg zO]
    have:=LA (ve l a.id) l
    rw [<-this] at hb
    rcases K2.1 hb with hb|hb
    · exact K_ _ (K_ _ hb)
    · exact LR _ hb
  · exact hb
theorem mE {l:List AddrD} {n:Int} {b:AddrD} (hb:b∈l) (hn:¬ b.id=n):b∈(bA l n).1:=by
  rw [bA];split
  · exact hb
  · rename_i h
    obtain⟨k,e,hk,hi⟩:=jW (show 0<=aB l n by omega)
    rw [e,K4]
    dsimp only
    obtain⟨j,hj,rfl⟩:=K6 hb
    have hjk:¬ j=k:=fun hc=>by subst hc;exact hn hi
    rcases LZ hjk with hl|hl
    · refine K_ _ ?_
      rw [Lq]
      exact⟨j,zO,rfl⟩
    · refine LR _ ?_
      rw [LG]
      exact⟨j - (k+1),zO,by congr 1;omega⟩
theorem r_ {l:List SubD} {k:Nat} (h:k∈lA l):aZ l k∈l:=by
  obtain⟨h1,_⟩:=lX h
  rw [br h1];exact K0 h1
theorem nL {l:List Nat} (h:¬ l.length=0):l.headD 0∈l:=by
  cases l with
  |nil=>simp at h
  |cons a r=>simp
theorem cO (s:SubD):SubKeep s (aL s):=by
  rw [aL];split
  · split
    · exact⟨rfl,rfl,rfl,rfl,rfl,.inr rfl⟩
    · exact⟨rfl,rfl,rfl,rfl,rfl,.inl rfl⟩
  · exact SubKeep.refl s
theorem x4 {e:EndD} (h:OkE e) (hk:Bm e=true):OkE { bU e with subs:=e.subs.map aL }:=by
  simp only [Bm,KZ,decide_eq_true_eq,Lm] at hk
  refine⟨h.side,h.state,h.pol,h.own,h.far,h.halfs.young,ug h.bucket,vK h.out,h.inp,h.done,h.over,by dsimp only;rw [Lv];exact h.subs8,⟨h.nums.1,h.nums.2.1,h.nums.2.2.1,by have:=h.nums.2.2.2.1;simp only [N9,bU] at this⊢;omega,h.nums.2.2.2.2⟩,h.subs.map fun s hs=>?_⟩
  have hel:=h.subs.el s hs
  have ht:=hk.2 s hs
  have hN:N9 (s.tries+1):=by have:=hel.2.2.2.2.2.2;simp only [N9] at this⊢;omega
  rw [aL];split
  · split
    · exact⟨⟨zP,hel.2.1,hel.2.2.1,hel.2.2.2.1,hel.2.2.2.2.1,hel.2.2.2.2.2.1,hN⟩,rfl,fun _=>rfl⟩
    · exact⟨⟨hel.1,hel.2.1,hel.2.2.1,hel.2.2.2.1,hel.2.2.2.2.1,hel.2.2.2.2.2.1,hN⟩,rfl,fun h=>h⟩
  · exact⟨hel,rfl,fun h=>h⟩
theorem Hl {w w':WorldD} {l:List LetterD} (M:MildA w w') (C:Core w) (h:Core w'->Sent w' l):Go1 w w' l:=⟨(M.put C).core C,(M.put C).le,h ((M.put C).core C)⟩
theorem mF {w:WorldD} (C:Core w):Go1 w w []:=Hl (MildA.refl C) C fun _=>eh
theorem vO {w:WorldD} (C:Core w) {s:SubD} (hs:s∈w.a.subs):¬ sideAt s.road.far=0/\¬ sideAt s.road.far=1:=by
  have:=(C.sa s hs).far
  omega
theorem JI {w:WorldD} (C:Core w):Go1 w (ff w (ck w.a).1) (ck w.a).2:=by
  have ok:=vJ C.oka
  have st:=(lu (e:=w.a)).trans C.sta
  unfold ck at ok st⊢
  split at ok
  · rename_i hk
    rw [if_pos hk] at st⊢
    refine Hl ⟨rfl,rfl,rfl,rfl,rfl,⟨[],by simp [ff]⟩,⟨ok,st⟩,⟨rfl,rfl,rfl,rfl⟩,SubsKeep.refl _,fun h hh=>⟨h,hh,HalfKeep.refl h⟩,C.oa,C.fa,fun _ _ h=>h,uk C.oia,C.iia⟩ C fun C'=>?_
    simp only [iW,KZ,decide_eq_true_eq,ie] at hk
    rcases ic w.a with h0|⟨m,hm,e⟩
    · omega
    · rw [e,K4,br hm]
      obtain⟨f0,f1⟩:=vO C (K0 hm)
      refine jX f0 ?_
      have hs:=mD C.oia hk.1.1
      constructor<;>(intro q1 q2;simp only [tW,ae,aj] at q1 q2;try omega)
      first|exact .inr hs|exact absurd q1 f1
  · rename_i hk
    rw [if_neg hk]
    exact mF C
theorem Ag:∀ {k:Nat} {w:WorldD},Core w->Go1 w (ff w (bC k w.a).1) (bC k w.a).2
  |0,w,C=>mF C
  |k+1,w,C=>by
    have h1:=JI C
    have h2:=Ag (k:=k) h1.c
    exact h1.trans h2
theorem JJ {w:WorldD} (C:Core w):Sent w (bx w.a):=by
  unfold bx;split
  · rename_i hk
    simp only [zG,KZ,decide_eq_true_eq,Lh,decide_eq_false_iff_not] at hk
    intro x hx
    obtain⟨q,hq,rfl⟩:=Ll.1 hx
    have hq':=(Lr.1 hq).1
    have hs:=r_ (nL hk.2)
    obtain⟨f0,f1⟩:=vO C hs
    refine⟨f0,?_⟩
    constructor<;>(intro q1 q2;simp only [mq,ae,aj] at q1 q2;try omega)
    all_goals
      intro i d hm
      first
        |exact absurd q1 f1
        | (simp only [mq,ae] at hm
           injection hm with _ _ _ hi hd
           exact⟨by rw [<-hd];exact C.oa q hq',.inl ⟨q,hq',hi,hd⟩⟩)
  · exact eh
theorem Fd {w:WorldD} {l:List LetterD} (C:Core w) (hl:Sent w l):Go1 w (ff w (bm w.a l).1) (bm w.a l).2:=by
  have h:=Ag (k:=3) C
  exact⟨h.c,h.le,jY (jY (hl.mono h.le) ((JJ C).mono h.le)) h.s⟩
theorem Hm {w:WorldD} (C:Core w):Go1 w (ff w (tick w.a).1) (tick w.a).2:=by
  have hst:=C.sta
  unfold tick
  by_cases hk:Bm w.a=true
  · rw [if_pos hk,if_pos hst]
    have ok:OkE { bU w.a with subs:=w.a.subs.map aL }:=x4 C.oka hk
    have M:MildA w (ff w { bU w.a with subs:=w.a.subs.map aL }):=by
      refine⟨rfl,rfl,rfl,rfl,rfl,⟨[],by simp [ff]⟩,⟨ok,hst⟩,⟨rfl,rfl,rfl,rfl⟩,SubsKeep.map fun s _=>cO s,fun h hh=>⟨h,(Lr.1 hh).1,HalfKeep.refl h⟩,C.oa,C.fa,fun _ _ h=>h,E_ C.oia,C.iia⟩
    have g:Go1 w (ff w { bU w.a with subs:=w.a.subs.map aL }) (w.a.subs.flatMap (cP w.a)):=by
      refine Hl M C fun C' x hx=>?_
      obtain⟨s,hs,hx⟩:=LQ.1 hx
      have S:=C.sa s hs
      have hf:=S.far
      rw [cP] at hx
      split at hx
      case isFalse=>simp at hx
      rename_i h12
      have h1000:=S.ask h12
      split at hx
      · simp at hx
      rename_i hn9
      split at hx
      · simp at hx
      have hin:aL s∈(ff w { bU w.a with subs:=w.a.subs.map aL }).a.subs:=List.mem_map_of_mem hs
      have K:=cO s
      split at hx
      · rw [K1.1 hx]
        refine⟨by show ¬ sideAt s.road.far=0;omega,?_⟩
        constructor<;>(intro q1 q2;simp only [dX,ae,aj] at q1 q2;try omega)
        exact .inr ⟨_,hin,by rw [K.mine];exact h1000,K.mine.symm,K.take.symm,by rw [K.road];rfl⟩
      · rename_i h1
        rw [K1.1 hx]
        refine⟨by show ¬ sideAt s.road.far=0;omega,?_⟩
        constructor<;>(intro q1 q2;simp only [bi,ae,aj] at q1 q2;try omega)
        intro m n hm
        simp only [bi,ae,ff] at hm
        injection hm with _ _ _ hm hn'
        exact⟨_,hin,by rcases K.state with q|q<;>omega,by rw [K.mine];exact h1000,by rw [K.mine];exact hm.symm,by rw [K.theirs];exact hn'.symm,by rw [K.road];rfl⟩
    have t:=Fd g.c g.s
    exact⟨t.c,g.le.trans t.le,t.s⟩
  · rw [if_neg hk];exact mF C
theorem Hn {w:WorldD} (C:Core w) (r:RoadD) (b:Bool):Go1 w (ff w (cA w.a r b).1) (cA w.a r b).2:=by
  have ok:=Bw (r:=r) (b:=b) C.oka
  unfold cA at ok⊢
  split at ok
  · rename_i hk
    rw [if_pos hk]
    simp only [sT,KZ,decide_eq_true_eq,cm,ks] at hk
    obtain⟨⟨⟨⟨⟨⟨⟨k1,k2⟩,k3⟩,k4⟩,k5⟩,k6⟩,k7⟩,k8⟩:=hk
    have da:=C.da
    simp only [cz,eC,LD,beq_iff_eq] at k5 k6
    obtain⟨q,q1,q2⟩:=k5
    obtain⟨f,f1,f2⟩:=k6
    have ho:=C.oa q q1
    have hf:=(C.fa f f1).1
    rw [q2] at ho
    rw [f2] at hf
    have hmem:bz w.a r b∈w.a.subs++[bz w.a r b]:=by simp
    have P:PutA w (ff w { w.a with subs:=w.a.subs++[bz w.a r b],draw:=w.a.draw+4 }):=by
      refine⟨rfl,rfl,rfl,rfl,rfl,⟨[],by simp [ff]⟩,ok.1,ok.2.trans C.sta,C.sia,rfl,rfl,⟨by dsimp only [ff];omega,by dsimp only [ff];omega⟩,fun s hs=>⟨s,K_ _ hs,SubTo.refl s⟩,fun s hs=>?_,?_,fun h hh=>?_,C.oa,C.fa,fun _ _ h=>h,C.oia,C.iia⟩
      · rcases K2.1 hs with hs|hs
        · have S:=C.sa s hs
          exact⟨by have:=S.t4;dsimp only [ff];omega,S.tn,S.mine,S.own,S.far,S.th,S.on,S.ask⟩
        · rw [K1.1 hs]
          refine⟨by simp only [bz,ff];omega,fun hc=>?_,.inr ⟨rfl,fun hc=>?_⟩,ho,hf,⟨by have:=C.db;simp only [bz];omega,fun h hh hm=>?_⟩,fun h3=>by simp [bz] at h3,fun _=>by simp only [bz];omega⟩
          · have:=(C.nn _ hc).1 (by simp only [bz];omega)
            simp only [bz] at this
            omega
          · have:=(C.nn _ hc).1 (by simp only [bz];omega)
            simp only [bz] at this
            omega
          · have:=(C.hb h hh).m4
            simp only [bz] at hm
            omega
      · dsimp only [ff]
        rw [Ln]
        refine⟨C.sad,Ld ..,fun s hs t ht=>?_⟩
        rw [K1.1 ht]
        have:=(C.sa s hs).t4
        simp only [bz]
        omega
      · have S:=C.ha h hh
        refine⟨by have:=S.m4;dsimp only [ff];omega,fun s hs=>?_,S.th⟩
        rcases K2.1 hs with hs|hs
        · exact S.sep s hs
        · rw [K1.1 hs]
          have:=S.m4
          simp only [bz]
          omega
    refine⟨P.core C,P.le,jX ?_ ?_⟩
    · show ¬ sideAt r.far=0
      omega
    · constructor<;>(intro q1 q2;simp only [dX,bz,ae,aj] at q1 q2;try omega)
      exact .inr ⟨_,hmem,by simp only [bz];omega,rfl,rfl,rfl⟩
  · rename_i hk
    rw [if_neg hk];exact mF C
theorem Ah {far:List AddrD}:∀ {l:List RoadD} {w:WorldD},Core w->Go1 w (ff w (ci far w.a l).1) (ci far w.a l).2
  |[],w,C=>mF C
  |r::l,w,C=>by
    have h1:=Hn C r (aD far r.far)
    have h2:=Ah (far:=far) (l:=l) h1.c
    exact h1.trans h2
theorem JK {w:WorldD} {a:ActD} (C:Core w) (G:SmallP w.a.inp) (hs:a.side=1) (hb:ll w a=false):Go1 w (aV (fA w a) 1 (dj w.a a).1) (dj w.a a).2:=by
  have ok:=pp (a:=a) C.oka G
  have hE:dc w a.side=w.a:=by rw [hs];rfl
  have heo:ah w.a=true:=cU.2 C.oka
  have hset:∀ (u:WorldD) (e:EndD),aV u 1 e={ u with a:=e }:=fun u e=>rfl
  rw [hset]
  unfold dj at ok⊢
  unfold fA
  rw [hE]
  by_cases k1:a.kind=1
  · simp only [if_pos k1]
    rw [kP,if_pos hs]
    have ok1:=mA (t:=a.text) C.oka
    have hw:cf w.a a.text=({ w.a with out:=(bZ w.a.out a.text).1 },(bZ w.a.out a.text).2):=vx heo
    rw [hw] at ok1
    rw [hw,writeAll,hw]
    dsimp only
    have M:MildA w { w with wroteA:=w.wroteA++a.text.take (bZ w.a.out a.text).2,a:={ w.a with out:=(bZ w.a.out a.text).1 } }:=
      ⟨rfl,rfl,rfl,rfl,rfl,⟨_,rfl⟩,⟨ok1.1,ok1.2.trans C.sta⟩,⟨rfl,rfl,rfl,rfl⟩,SubsKeep.refl _,fun h hh=>⟨h,hh,HalfKeep.refl h⟩,C.oa,C.fa,fun _ _ h=>h,xY C.oia,C.iia⟩
    have g:=Hl M C fun _=>eh
    have g2:=Ag (k:=3) g.c
    exact g.trans g2
  simp only [if_neg k1] at ok⊢
  by_cases k2:a.kind=2
  · simp only [if_pos k2] at ok⊢
    rw [fL,if_pos hs]
    have hr:b_ w.a a.many=({ w.a with inp:=(aK w.a.inp a.many).1 },(aK w.a.inp a.many).2):=vz heo
    rw [hr] at ok⊢
    exact Hl ⟨rfl,rfl,rfl,rfl,rfl,⟨[],zP⟩,⟨ok.1,ok.2.trans C.sta⟩,⟨rfl,rfl,rfl,rfl⟩,SubsKeep.refl _,fun h hh=>⟨h,hh,HalfKeep.refl h⟩,C.oa,C.fa,fun _ _ h=>h,C.oia,E8 C.iia⟩ C fun _=>eh
  simp only [if_neg k2] at ok⊢
  by_cases k3:a.kind=3
  · simp only [if_pos k3]
    exact Hm C
  simp only [if_neg k3] at ok⊢
  by_cases k4:a.kind=4
  · simp only [if_pos k4]
    unfold manage
    split
    · exact Ah C
    · exact mF C
  simp only [if_neg k4] at ok⊢
  by_cases k5:a.kind=5
  · simp only [if_pos k5] at ok⊢
    unfold addOwn at ok⊢
    split at ok
    · rename_i hk
      rw [if_pos hk]
      simp only [zE,KZ,decide_eq_true_eq] at hk
      simp only [ll,k5,decide_true,L4,Me,Mj,decide_eq_true_eq,hs] at hb
      refine Hl ⟨rfl,rfl,rfl,rfl,rfl,⟨[],zP⟩,⟨ok.1,ok.2.trans C.sta⟩,⟨rfl,rfl,rfl,rfl⟩,SubsKeep.refl _,fun h hh=>⟨h,hh,HalfKeep.refl h⟩,fun q hq=>?_,C.fa,fun i d h=>?_,C.oia,C.iia⟩ C fun _=>eh
      · rcases dO hq with rfl|hq
        · exact hb.1
        · exact C.oa q hq
      · rcases h with⟨q,h1,h2,h3⟩|h
        · exact .inl ⟨q,oI hk.1.2 h1,h2,h3⟩
        · exact .inr h
    · rename_i hk
      rw [if_neg hk];exact mF C
  simp only [if_neg k5] at ok⊢
  by_cases k6:a.kind=6
  · simp only [if_pos k6] at ok⊢
    unfold gm at ok⊢
    split at ok
    · rename_i hk
      rw [if_pos hk]
      have K:SubsKeep w.a.subs (fW w.a a.pos):=SubsKeep.map fun s _=>by
        rw [Bk];split
        · exact⟨rfl,rfl,rfl,rfl,rfl,.inr rfl⟩
        · exact SubKeep.refl s
      refine Hl ⟨rfl,rfl,rfl,rfl,rfl,⟨[],zP⟩,⟨ok.1,ok.2.trans C.sta⟩,⟨rfl,rfl,rfl,rfl⟩,K,fun h hh=>⟨h,hh,HalfKeep.refl h⟩,fun q hq=>C.oa q (fd hq),C.fa,fun i d h=>?_,C.oia,C.iia⟩ C fun C' x hx=>?_
      · rcases h with⟨q,h1,h2,h3⟩|h
        · by_cases hn:q.id=a.pos
          · exact .inr (by dsimp only;rw [<-h2,hn];exact xS)
          · exact .inl ⟨q,mE h1 hn,h2,h3⟩
        · exact .inr (xT h)
      · obtain⟨k,hk2,rfl⟩:=Ll.1 hx
        exact⟨(vO C' (r_ hk2)).1,kA (by simp [oR,Bl,ae])⟩
    · rename_i hk
      rw [if_neg hk];exact mF C
  simp only [if_neg k6] at ok⊢
  unfold iX at ok⊢
  split at ok
  · rename_i hk
    rw [if_pos hk]
    simp only [GF,KZ,decide_eq_true_eq,cm] at hk
    refine Hl ⟨rfl,rfl,rfl,rfl,rfl,⟨[],zP⟩,⟨ok.1,ok.2.trans C.sta⟩,⟨rfl,rfl,rfl,rfl⟩,SubsKeep.st4 _ _,fun h hh=>⟨h,hh,HalfKeep.refl h⟩,C.oa,C.fa,fun _ _ h=>h,C.oia,C.iia⟩ C fun _=>jX ?_ (kA (by simp [oR,ae]))
    have hl:a.pos.toNat < w.a.subs.length:=zO
    rw [br hl]
    exact (vO C (K0 hl)).1
  · rename_i hk
    rw [if_neg hk];exact mF C
theorem Ho {w w':WorldD} {l:List LetterD} (M:MildB w w') (C:Core w) (h:Core w'->Sent w' l):Go1 w w' l:=⟨(M.put C).core C,(M.put C).le,h ((M.put C).core C)⟩
theorem se {w:WorldD} (C:Core w):Go1 w w []:=Ho (MildB.refl C) C fun _=>eh
theorem vP {w:WorldD} (C:Core w) {s:SubD} (hs:s∈w.b.subs):¬ sideAt s.road.far=0/\¬ sideAt s.road.far=2:=by
  have:=(farB C hs).1
  omega
theorem JL {w:WorldD} (C:Core w):Go1 w (inB w (ck w.b).1) (ck w.b).2:=by
  have ok:=vJ C.okb
  have st:=(lu (e:=w.b)).trans C.stb
  unfold ck at ok st⊢
  split at ok
  · rename_i hk
    rw [if_pos hk] at st⊢
    refine Ho ⟨rfl,rfl,rfl,rfl,rfl,⟨[],by simp [inB]⟩,⟨ok,st⟩,⟨rfl,rfl,rfl,rfl⟩,SubsKeep.refl _,List.Sublist.refl _,C.ob,C.fb,fun _ _ h=>h,uk C.oib,C.iib⟩ C fun C'=>?_
    simp only [iW,KZ,decide_eq_true_eq,ie] at hk
    rcases ic w.b with h0|⟨m,hm,e⟩
    · omega
    · rw [e,K4,br hm]
      obtain⟨f0,f1⟩:=vP C (K0 hm)
      refine jX f0 ?_
      have hs:=mD C.oib hk.1.1
      constructor<;>(intro q1 q2;simp only [tW,ae,aj] at q1 q2;try omega)
      first|exact .inr hs|exact absurd q1 f1
  · rename_i hk
    rw [if_neg hk]
    exact se C
theorem Ai:∀ {k:Nat} {w:WorldD},Core w->Go1 w (inB w (bC k w.b).1) (bC k w.b).2
  |0,w,C=>se C
  |k+1,w,C=>by
    have h1:=JL C
    have h2:=Ai (k:=k) h1.c
    exact h1.trans h2
theorem JM {w:WorldD} (C:Core w):Sent w (bx w.b):=by
  unfold bx;split
  · rename_i hk
    simp only [zG,KZ,decide_eq_true_eq,Lh,decide_eq_false_iff_not] at hk
    intro x hx
    obtain⟨q,hq,rfl⟩:=Ll.1 hx
    have hq':=(Lr.1 hq).1
    have hs:=r_ (nL hk.2)
    obtain⟨f0,f1⟩:=vP C hs
    refine⟨f0,?_⟩
    constructor<;>(intro q1 q2;simp only [mq,ae,aj] at q1 q2;try omega)
    all_goals
      intro i d hm
      first
        |exact absurd q1 f1
        | (simp only [mq,ae] at hm
           injection hm with _ _ _ hi hd
           exact⟨by rw [<-hd];exact C.ob q hq',.inl ⟨q,hq',hi,hd⟩⟩)
  · exact eh
theorem Fe {w:WorldD} {l:List LetterD} (C:Core w) (hl:Sent w l):Go1 w (inB w (bm w.b l).1) (bm w.b l).2:=by
  have h:=Ai (k:=3) C
  exact⟨h.c,h.le,jY (jY (hl.mono h.le) ((JM C).mono h.le)) h.s⟩
theorem JN {w:WorldD} (C:Core w):Go1 w (inB w (tick w.b).1) (tick w.b).2:=by
  have hst:=C.stb
  unfold tick
  by_cases hk:Bm w.b=true
  · rw [if_pos hk,if_pos hst]
    have ok:OkE { bU w.b with subs:=w.b.subs.map aL }:=x4 C.okb hk
    have M:MildB w (inB w { bU w.b with subs:=w.b.subs.map aL }):=by
      refine⟨rfl,rfl,rfl,rfl,rfl,⟨[],by simp [inB]⟩,⟨ok,hst⟩,⟨rfl,rfl,rfl,rfl⟩,SubsKeep.map fun s _=>cO s,LW,C.ob,C.fb,fun _ _ h=>h,E_ C.oib,C.iib⟩
    have g:Go1 w (inB w { bU w.b with subs:=w.b.subs.map aL }) (w.b.subs.flatMap (cP w.b)):=by
      refine Ho M C fun C' x hx=>?_
      obtain⟨s,hs,hx⟩:=LQ.1 hx
      have S:=(C.sb s hs).st
      rw [cP,if_neg zO] at hx
      simp at hx
    have t:=Fe g.c g.s
    exact⟨t.c,g.le.trans t.le,t.s⟩
  · rw [if_neg hk];exact se C
theorem JO {w:WorldD} {a:ActD} (C:Core w) (G:SmallP w.b.inp) (hs:a.side=2) (hb:ll w a=false):Go1 w (aV (fA w a) 2 (dj w.b a).1) (dj w.b a).2:=by
  have ok:=pp (a:=a) C.okb G
  have hE:dc w a.side=w.b:=by rw [hs];rfl
  have heo:ah w.b=true:=cU.2 C.okb
  have hset:∀ (u:WorldD) (e:EndD),aV u 2 e={ u with b:=e }:=fun u e=>rfl
  rw [hset]
  unfold dj at ok⊢
  unfold fA
  rw [hE]
  by_cases k1:a.kind=1
  · simp only [if_pos k1]
    rw [kP,if_neg zO]
    have ok1:=mA (t:=a.text) C.okb
    have hw:cf w.b a.text=({ w.b with out:=(bZ w.b.out a.text).1 },(bZ w.b.out a.text).2):=vx heo
    rw [hw] at ok1
    rw [hw,writeAll,hw]
    dsimp only
    have M:MildB w { w with wroteB:=w.wroteB++a.text.take (bZ w.b.out a.text).2,b:={ w.b with out:=(bZ w.b.out a.text).1 } }:=
      ⟨rfl,rfl,rfl,rfl,rfl,⟨_,rfl⟩,⟨ok1.1,ok1.2.trans C.stb⟩,⟨rfl,rfl,rfl,rfl⟩,SubsKeep.refl _,List.Sublist.refl _,C.ob,C.fb,fun _ _ h=>h,xY C.oib,C.iib⟩
    have g:=Ho M C fun _=>eh
    have g2:=Ai (k:=3) g.c
    exact g.trans g2
  simp only [if_neg k1] at ok⊢
  by_cases k2:a.kind=2
  · simp only [if_pos k2] at ok⊢
    rw [fL,if_neg zO]
    have hr:b_ w.b a.many=({ w.b with inp:=(aK w.b.inp a.many).1 },(aK w.b.inp a.many).2):=vz heo
    rw [hr] at ok⊢
    exact Ho ⟨rfl,rfl,rfl,rfl,rfl,⟨[],zP⟩,⟨ok.1,ok.2.trans C.stb⟩,⟨rfl,rfl,rfl,rfl⟩,SubsKeep.refl _,List.Sublist.refl _,C.ob,C.fb,fun _ _ h=>h,C.oib,E8 C.iib⟩ C fun _=>eh
  simp only [if_neg k2] at ok⊢
  by_cases k3:a.kind=3
  · simp only [if_pos k3]
    exact JN C
  simp only [if_neg k3] at ok⊢
  by_cases k4:a.kind=4
  · simp only [if_pos k4]
    unfold manage
    rw [if_neg (fun hc=>by have:=C.sib;omega)]
    exact se C
  simp only [if_neg k4] at ok⊢
  by_cases k5:a.kind=5
  · simp only [if_pos k5] at ok⊢
    unfold addOwn at ok⊢
    split at ok
    · rename_i hk
      rw [if_pos hk]
      simp only [zE,KZ,decide_eq_true_eq] at hk
      simp only [ll,k5,decide_true,L4,Me,Mj,decide_eq_true_eq,hs] at hb
      refine Ho ⟨rfl,rfl,rfl,rfl,rfl,⟨[],zP⟩,⟨ok.1,ok.2.trans C.stb⟩,⟨rfl,rfl,rfl,rfl⟩,SubsKeep.refl _,List.Sublist.refl _,fun q hq=>?_,C.fb,fun i d h=>?_,C.oib,C.iib⟩ C fun _=>eh
      · rcases dO hq with rfl|hq
        · exact hb.1
        · exact C.ob q hq
      · rcases h with⟨q,h1,h2,h3⟩|h
        · exact .inl ⟨q,oI hk.1.2 h1,h2,h3⟩
        · exact .inr h
    · rename_i hk
      rw [if_neg hk];exact se C
  simp only [if_neg k5] at ok⊢
  by_cases k6:a.kind=6
  · simp only [if_pos k6] at ok⊢
    unfold gm at ok⊢
    split at ok
    · rename_i hk
      rw [if_pos hk]
      have K:SubsKeep w.b.subs (fW w.b a.pos):=SubsKeep.map fun s _=>by
        rw [Bk];split
        · exact⟨rfl,rfl,rfl,rfl,rfl,.inr rfl⟩
        · exact SubKeep.refl s
      refine Ho ⟨rfl,rfl,rfl,rfl,rfl,⟨[],zP⟩,⟨ok.1,ok.2.trans C.stb⟩,⟨rfl,rfl,rfl,rfl⟩,K,List.Sublist.refl _,fun q hq=>C.ob q (fd hq),C.fb,fun i d h=>?_,C.oib,C.iib⟩ C fun C' x hx=>?_
      · rcases h with⟨q,h1,h2,h3⟩|h
        · by_cases hn:q.id=a.pos
          · exact .inr (by dsimp only;rw [<-h2,hn];exact xS)
          · exact .inl ⟨q,mE h1 hn,h2,h3⟩
        · exact .inr (xT h)
      · obtain⟨k,hk2,rfl⟩:=Ll.1 hx
        exact⟨(vP C' (r_ hk2)).1,kA (by simp [oR,Bl,ae])⟩
    · rename_i hk
      rw [if_neg hk];exact se C
  simp only [if_neg k6] at ok⊢
  unfold iX at ok⊢
  split at ok
  · rename_i hk
    rw [if_pos hk]
    simp only [GF,KZ,decide_eq_true_eq,cm] at hk
    refine Ho ⟨rfl,rfl,rfl,rfl,rfl,⟨[],zP⟩,⟨ok.1,ok.2.trans C.stb⟩,⟨rfl,rfl,rfl,rfl⟩,SubsKeep.st4 _ _,List.Sublist.refl _,C.ob,C.fb,fun _ _ h=>h,C.oib,C.iib⟩ C fun _=>jX ?_ (kA (by simp [oR,ae]))
    have hl:a.pos.toNat < w.b.subs.length:=zO
    rw [br hl]
    exact (vP C (K0 hl)).1
  · rename_i hk
    rw [if_neg hk];exact se C
def dC (s:Int) (p:PolicyD):EndD:=⟨s,0,0,0,p,e_ (10*s+1),[],[],[],⟨1,3,3⟩,⟨[],0,0,120⟩,⟨0,[],[]⟩,[],[],1000+s,0,0⟩
def sf (e:EndD):Bool:=decide (e.own.length<=1048576) && decide (e.far.length<=1048576) && decide (e.subs.length<=1048576) && decide (e.halfs.length<=1048576) && decide (e.inp.list.length<=1048576) && decide (e.done.length<=1048576) && decide (e.over.length<=1048576)
theorem lx {e:EndD} (h:sf e=true):Small e:=by
 simp only [sf,KZ,decide_eq_true_eq] at h
 exact⟨h.1.1.1.1.1.1,h.1.1.1.1.1.2,h.1.1.1.1.2,h.1.1.1.2,h.1.1.2,h.1.2,h.2⟩
def vQ (e:EndD):Bool:=sf e && decide (e.inp.list=[]) && decide (e.inp.ready.length=0) && decide (e.out.text.length=0) && decide (e.subs.length<=100) && decide (e.far.length<=100)
theorem oJ {e:EndD} (h:vQ e=true):GoodE e/\KQ e:=by
 simp only [vQ,KZ,decide_eq_true_eq] at h
 obtain⟨⟨⟨⟨⟨h1,h2⟩,h3⟩,h4⟩,h5⟩,h6⟩:=h
 exact⟨⟨lx h1,⟨by rw [h2];decide,zO,fun x hx=>by rw [h2] at hx;simp at hx⟩,zO⟩,h5,h6⟩
def startE (x y:EndD):Bool:=ah x && ah y && decide (x.state=2/\y.state=2/\x.side=1/\y.side=2/\x.key=1001/\y.key=1002/\x.peer=1002/\y.peer=1001/\x.draw=1005/\y.draw=1006/\x.now=0/\y.now=0) &&
 decide (x.halfs=[]/\y.halfs=[]/\x.own=e_ 11/\y.own=e_ 21/\x.far=eS 21/\y.far=eS 11/\x.bucket=⟨1,3,3⟩/\y.bucket=⟨1,3,3⟩) &&
 decide (x.out=⟨[],0,0,120⟩/\y.out=⟨[],0,0,120⟩) && decide (x.inp.read=0/\x.inp.ready=[]/\x.inp.list=[]/\y.inp.read=0/\y.inp.ready=[]/\y.inp.list=[]) &&
 decide (x.subs=[⟨⟨11,21,0⟩,3,false,0,0,1004,1003,0⟩]/\y.subs=[⟨⟨21,11,0⟩,3,false,0,0,1003,1004,0⟩])
structure Start (w:WorldD):Prop where
 e:startE w.a w.b=true
 bag:w.bag=[]
 past:w.past=[]
 keys:w.known.keys=[5,7]
 tags:w.known.tags=[]
 nums:w.nums=[]
 wa:w.wroteA=[]
 wb:w.wroteB=[]
 ra:w.readA=[]
 rb:w.readB=[]
 na:w.answersA=[]
 nb:w.answersB=[]
structure Start2 (w:WorldD):Prop where
 pol:w.a.policy∈pols
 done:w.a.done=[]/\w.b.done=[]
 over:w.a.over=[]/\w.b.over=[]
structure CalmA (a:ActD):Prop where
 k:a.kind=1\/a.kind=2\/a.kind=3\/a.kind=4\/a.kind=5\/a.kind=8\/a.kind=9\/a.kind=10
 ad:a.kind=5->a.addr.id=1/\a.addr.addr=10*a.side+2
theorem Aj {w:WorldD} {x:LetterD} (C:Core w) (h:kp w x=true):(∀ k a b m n,x.tag=⟨k,a,b,m,n⟩->1000<=a->¬ k=0->k=1/\Loose w.nums n)/\Loose w.nums x.nonce/\Loose w.nums x.sgn/\Loose w.nums x.give:=by
 simp only [kp,KZ,Lh,decide_eq_false_iff_not,LP,LU,Lw,decide_eq_true_eq,rT,and_true] at h
 obtain⟨⟨⟨h1,h2⟩,h3⟩,_,q2,q3,q4⟩:=h
 refine⟨fun k a b m n he ha hk=>?_,q2,q4,q3⟩
 simp only [vd,Lw,decide_eq_true_eq,KZ,rT,LD] at h3
 rw [he] at h3
 rcases h3 with (h3|h3)|⟨u,u1,u2⟩
 ·rw [Bc] at h3
  injection h3 with e
  exact absurd e hk
 ·rw [C.keys] at h3
  simp only [Lf,List.not_mem_nil,or_false] at h3
  omega
 have:=C.tags u (LB u1)
 rw [u2] at this
 exact this
theorem x5 {w:WorldD} {x:LetterD} (C:Core w) (h:kp w x=true):LetI w x:=by
 obtain⟨no,q2,q4,_⟩:=Aj C h
 have n1:∀ k a b m n,x.tag=⟨k,a,b,m,n⟩->1000<=a->¬ k=0->¬ k=1->False:=fun k a b m n he ha hk h1=>h1 (no k a b m n he ha hk).1
 exact⟨fun _ _=>q2,fun _ _ m hm=>.inl (no _ _ _ _ _ hm C.kb zD).2,fun _ _ m n hm=>n1 _ _ _ _ _ hm C.kb zD zD,fun _ _=>.inl q4,fun _ _ i d hm=>(n1 _ _ _ _ _ hm C.kb zD zD).elim,fun _ _=>.inl q4,fun _ _=>.inl q2,fun _ _ m n hm=>(n1 _ _ _ _ _ hm C.ka zD zD).elim,fun _ _ i d hm=>(n1 _ _ _ _ _ hm C.ka zD zD).elim,fun _ _=>.inl q4⟩
theorem Inv.step {w w':WorldD} {l:List LetterD} {side:Int} (h:Inv w) (S:Step w w' l) (hb:w'.bag=w.bag) (hp:w'.past=w.past):Inv (bY side w' l):=
 uj ⟨S.c,fun x hx=>(h.bag x (hb▸hx)).mono S.le,fun x hx=>(h.past x (hp▸hx)).mono S.le⟩ S.post
theorem vR {w:WorldD} {l:List LetterD} (h:Inv w) (hl:∀ x∈l,LetI w x):Inv { w with bag:=l }:=by
 have L:Le w { w with bag:=l }:=mB rfl rfl (fun _ h=>h) rfl rfl
 exact⟨xW h.c,fun x hx=>(hl x hx).mono L,fun x hx=>(h.past x hx).mono L⟩
theorem C0 {w:WorldD} {x:LetterD} (h:Inv w) (ga:SmallP w.a.inp) (gb:SmallP w.b.inp) (L:LetI w x):Inv (eY w x):=by
 rcases iy x.to with h0|h0|h0
 ·rw [eY,if_pos h0];exact h
 ·rw [eY,if_neg zO,f6,if_pos (.inl h0),h0]
  exact h.step (Fa h.c ga L h0) rfl rfl
 rw [eY,if_neg zO,f6,if_pos (.inr h0),h0]
 exact h.step (Fc h.c gb L h0) rfl rfl
theorem ul (w:WorldD) (a:ActD) (s:Int) (e:EndD):(aV (fA w a) s e).bag=w.bag/\(aV (fA w a) s e).past=w.past:=by
 unfold aV fA kP fL
 repeat' split
 all_goals exact⟨rfl,rfl⟩
theorem iD {l:List LetterD} {n:Nat} (h:n < l.length):ot l n∈l:=by
 rw [ot,LF,LH h];exact K0 h
theorem jb {l:List LetterD} {n:Int} {x:LetterD} (h:x∈nz l n):x∈l:=(ku l n.toNat).subset h
theorem C3 {w:WorldD} {a:ActD} (h:Inv w) (ga:SmallP w.a.inp) (gb:SmallP w.b.inp):Inv (gZ w a).1:=by
 unfold gZ;split
 ·rename_i hok
  have hs:=i_ hok
  have hp:=nD hok
  split
  ·unfold Ct;split
   ·exact h
   rename_i hb
   have hb:ll w a=false:=by simpa using hb
   obtain⟨k1,k2⟩:=ul w a a.side (dj (dc w a.side) a).1
   rcases hs with hs|hs
   ·have g:=JK h.c ga hs hb
    have hE:dc w a.side=w.a:=by rw [hs];rfl
    rw [hE] at k1 k2⊢
    rw [hs] at k1 k2⊢
    exact h.step g.step k1 k2
   have g:=JO h.c gb hs hb
   have hE:dc w a.side=w.b:=by rw [hs];rfl
   rw [hE] at k1 k2⊢
   rw [hs] at k1 k2⊢
   exact h.step g.step k1 k2
  have hout:Inv { w with bag:=nz w.bag a.pos }:=vR h fun x hx=>h.bag x (jb hx)
  have app:∀ x,LetI w x->Inv { w with bag:=w.bag++[x] }:=fun x hx=>vR h fun y hy=>by
   rcases K2.1 hy with hy|hy
   ·exact h.bag y hy
   rw [K1.1 hy];exact hx
  unfold ou
  split
  ·split
   ·exact h
   rename_i hl
   split
   ·refine C0 hout ga gb ?_
    exact (h.bag _ (iD (show a.pos.toNat < w.bag.length by omega))).mono (mB rfl rfl (fun _ h=>h) rfl rfl)
   exact hout
  split
  ·split
   ·exact h
   rename_i hl
   rw [not_or] at hl
   exact app _ (h.bag _ (iD zO))
  split
  ·split
   ·exact h
   rename_i hm
   split
   ·exact h
   exact app _ (x5 h.c (by simpa using hm))
  split
  ·exact h
  rename_i hl
  rw [not_or] at hl
  exact app _ (h.past _ (iD zO))
 exact h
structure Same4 (e e':EndD):Prop where
 subs:e'.subs=e.subs
 far:e'.far=e.far
 inp:e'.inp=e.inp
 out:e'.out=e.out
theorem Same4.refl (e:EndD):Same4 e e:=⟨rfl,rfl,rfl,rfl⟩
structure Life (w:WorldD) (k:Nat):Prop where
 g:GoodW w k
 i:Inv w
 n:AnsW w
theorem Life.step {w:WorldD} {a:ActD} {k:Nat} (h:Life w k) (ha:a.text.length<=1048576):Life (gZ w a).1 (k+1):=⟨z_ h.g ha,C3 h.i h.g.a.p h.g.b.p,Ac h.n⟩
theorem bt {n:Int} (h: -4611686018427387904<=n/\n<=4611686018427387904):aY n:=⟨zO,zO⟩
theorem N9.i {n:Int} (h:N9 n):aY n:=by obtain⟨h1,h2⟩:=h;exact bt zO
theorem gn:1048576<=maxLen:=by decide
theorem OkE.wf {e:EndD} (h:OkE e) (g:GoodE e):e.wf:=by
 have n:=h.nums
 have fo:=bQ h.out
 have fp:=bh h.inp g.p
 have o1:=fo.base;have o2:=fo.room;have o3:=fo.len;have o4:=fo.sent
 have m:=gn
 have s:=g.s
 have hb:=h.bucket
 simp only [bucketOk,KZ,cm] at hb
 have p0:=fp.r0;have p1:=fp.r1;have p2:=fp.ready
 have s1:=h.side;have s2:=h.state
 have pk:aY e.policy.kind/\aY e.policy.many:=by
  have hc:=zc h.pol
  have:=Gs _ hc
  exact this
 have t1:=g.o
 refine⟨bt zO,bt zO,n.1.i,n.2.1.i,pk.1,pk.2,bt zO,bt zO,bt zO,zO,bt zO,bt zO,bt zO,bt zO,zO,n.2.2.1.i,n.2.2.2.1.i,n.2.2.2.2.i,fun y hy=>?_,fun y hy=>?_,fun y hy=>?_,fun y hy=>?_,fun y hy=>?_,fun y hy=>?_,fun y hy=>?_,?_,?_,?_,?_,?_,?_,?_⟩
 ·have:=h.own.el y hy;simp only [AdE] at this;exact⟨bt zO,bt zO⟩
 ·have:=h.far.el y hy;simp only [AdE] at this;exact⟨bt zO,bt zO⟩
 ·obtain⟨q1,⟨r1,r2,r3⟩,q2,q3,q4,q5,q6⟩:=h.subs.el y hy
  exact⟨r1.i,r2.i,r3.i,bt zO,q2.i,q3.i,q4.i,q5.i,q6.i⟩
 ·obtain⟨⟨r1,r2,r3⟩,q2,q3,q4,q5,q6⟩:=h.halfs.el y hy
  exact⟨r1.i,r2.i,r3.i,q2.i,q3.i,q4.i,q5.i,q6.i⟩
 ·obtain⟨q1,q2,q3⟩:=fp.texts y hy
  exact⟨bt zO,zO⟩
 ·have:=(h.done.el y hy).1;exact bt zO
 ·have:=(h.over.el y hy).1;exact bt zO
 ·have:=s.own;omega
 ·have:=s.far;omega
 ·have:=s.subs;omega
 ·have:=s.halfs;omega
 ·have:=s.list;omega
 ·have:=s.done;omega
 have:=s.over;omega
def rdA:RoadD:=⟨11,21,0⟩
def subA0:SubD:=⟨rdA,3,false,0,0,1004,1003,0⟩
def subB0:SubD:=⟨bk rdA,3,false,0,0,1003,1004,0⟩
def Later (s t:SubD):Prop:=s.road=t.road->s.state=4/\(t.state=1\/s.theirs < t.theirs)
structure CS (sa sb:List SubD) (hb:List HalfD):Prop where
 a0:∃ r,sa=subA0::r
 b0:∃ r,sb=subB0::r
 pw:sa.Pairwise Later
 hl:∀ s∈sa,¬ s.state=1->∀ h∈hb,h.road=bk s.road->s.theirs<=h.mine
 on:∀ s∈sa,¬ s.state=4->∀ t∈sb,t.give=s.take->t.state=3
 xx:∀ s∈sa,∀ t∈sb,t.give=s.take->t.theirs=s.mine/\t.mine=s.theirs
 tr:∀ s∈sa,s.state=2->s.tries<=8
theorem pq {s:SubD} (h:s.state=4):aL s=s:=by rw [aL,if_neg zO]
theorem BB {s:SubD} (h:s.state=1):(aL s).state=1:=by rw [aL,if_pos (.inl h),if_neg zO];exact h
theorem BC {s:SubD} (h:s.state=3):aL s=s:=by rw [aL,if_neg zO]
theorem Ak {s:SubD} (h:¬ (aL s).state=1):¬ s.state=1:=fun hc=>h (BB hc)
theorem Al {s:SubD} (h:¬ (aL s).state=4):¬ s.state=4:=fun hc=>h (by rw [pq hc];exact hc)
theorem CS.tick {sa sb:List SubD} {hb:List HalfD} (K:CS sa sb hb):CS (sa.map aL) sb hb:=by
 obtain⟨r,hr⟩:=K.a0
 refine⟨⟨r.map aL,by rw [hr,Mf,BC zF]⟩,K.b0,?_,fun s hs h1 h hh hr=>?_,fun s hs h4 t ht hg=>?_,fun s hs t ht hg=>?_,fun s hs h2=>?_⟩
 ·rw [List.pairwise_map]
  refine K.pw.imp fun {s t} h hr=>?_
  have k1:=cO s
  have k2:=cO t
  rw [k1.road,k2.road] at hr
  obtain⟨e1,e2⟩:=h hr
  refine⟨by rw [pq e1];exact e1,?_⟩
  rcases e2 with e2|e2
  ·exact .inl (BB e2)
  exact .inr (by rw [k1.theirs,k2.theirs];exact e2)
 ·obtain⟨q,hq,rfl⟩:=Ll.1 hs
  have k:=cO q
  rw [k.road] at hr
  rw [k.theirs]
  exact K.hl q hq (Ak h1) h hh hr
 ·obtain⟨q,hq,rfl⟩:=Ll.1 hs
  rw [(cO q).take] at hg
  exact K.on q hq (Al h4) t ht hg
 ·obtain⟨q,hq,rfl⟩:=Ll.1 hs
  have k:=cO q
  rw [k.take] at hg
  rw [k.mine,k.theirs]
  exact K.xx q hq t ht hg
 obtain⟨q,hq,rfl⟩:=Ll.1 hs
 rw [aL] at h2⊢
 split at h2
 ·rename_i hc
  rw [if_pos hc]
  split at h2
  ·simp at h2
  rename_i hn
  rw [if_neg hn]
  dsimp only at h2⊢
  omega
 rename_i hc
 rw [if_neg hc];omega
theorem CS.half {sa sb:List SubD} {hb hb':List HalfD} (K:CS sa sb hb) {d:Int} (hd:∀ s∈sa,s.theirs < d) (h:∀ k∈hb',d<=k.mine\/∃ q∈hb,q.mine=k.mine/\q.road=k.road):CS sa sb hb':=by
 refine⟨K.a0,K.b0,K.pw,fun s hs h1 k hk hr=>?_,K.on,K.xx,K.tr⟩
 rcases h k hk with e|⟨q,q1,q2,q3⟩
 ·have:=hd s hs;omega
 rw [<-q2];exact K.hl s hs h1 q q1 (by rw [q3];exact hr)
theorem CS.sub {sa sb:List SubD} {hb hb':List HalfD} (K:CS sa sb hb) (h:∀ k∈hb',k∈hb):CS sa sb hb':=⟨K.a0,K.b0,K.pw,fun s hs h1 k hk hr=>K.hl s hs h1 k (h k hk) hr,K.on,K.xx,K.tr⟩
theorem CS.ask {sa sb:List SubD} {hb:List HalfD} (K:CS sa sb hb) {n:SubD} (h1:n.state=1) (hr:∀ s∈sa,s.state=4\/¬ s.road=n.road) (hg:∀ t∈sb,¬ t.give=n.take):CS (sa++[n]) sb hb:=by
 obtain⟨r,e⟩:=K.a0
 have mem:∀ s∈sa++[n],s∈sa\/s=n:=fun s hs=>by
  rcases K2.1 hs with hs|hs
  ·exact .inl hs
  exact .inr (K1.1 hs)
 refine⟨⟨r++[n],by rw [e,L9]⟩,K.b0,?_,fun s hs g=>?_,fun s hs g t ht gt=>?_,fun s hs t ht gt=>?_,fun s hs g=>?_⟩
 ·rw [Ln]
  refine⟨K.pw,Ld ..,fun s hs t ht e=>?_⟩
  rw [K1.1 ht] at e⊢
  rcases hr s hs with q|q
  ·exact⟨q,.inl h1⟩
  exact absurd e q
 ·rcases mem s hs with hs|rfl
  ·exact K.hl s hs g
  exact absurd h1 g
 ·rcases mem s hs with hs|rfl
  ·exact K.on s hs g t ht gt
  exact absurd gt (hg t ht)
 ·rcases mem s hs with hs|rfl
  ·exact K.xx s hs t ht gt
  exact absurd gt (hg t ht)
 rcases mem s hs with hs|rfl
 ·exact K.tr s hs g
 omega
theorem Ff {α:Type} {R:α->α->Prop} {l:List α} {n:Nat} {x:α} (hn:n < l.length) (p:l.Pairwise R) (h1:∀ (i:Nat) (hi:i < n),R (l[i]' zO) x) (h2:∀ (j:Nat) (hj:j < l.length),n < j->R x l[j]):(l.set n x).Pairwise R:=by
 rw [K5] at p⊢
 intro i j hi hj hij
 rw [La] at hi hj
 rw [Lb,Lb]
 split
 ·split
  ·omega
  rename_i e _;subst e;exact h2 j hj hij
 split
 ·rename_i e;subst e;exact h1 i hij
 exact p i j hi hj hij
theorem Later.at {sa:List SubD} (p:sa.Pairwise Later) {i j:Nat} (hi:i < sa.length) (hj:j < sa.length) (h:i < j):Later sa[i] sa[j]:=by
 rw [K5] at p;exact p i j hi hj h
theorem CS.first {sa sb:List SubD} {hb:List HalfD} (K:CS sa sb hb) {s:SubD} (hs:s∈sa) (h:s.road=rdA):s=subA0:=by
 obtain⟨r,e⟩:=K.a0
 have p:=K.pw
 rw [e] at hs p
 rcases Lf.1 hs with hs|hs
 ·exact hs
 have:=(LI.1 p).1 s hs h.symm
 exact absurd this.1 zD
theorem CS.back {sa sb:List SubD} {hb:List HalfD} (K:CS sa sb hb) {n:Nat} (hn:n < sa.length) (h1:sa[n].state=1) {x:LetterD} (ho:∀ (i:Nat) (hi:i < n),(sa[i]' zO).road=sa[n].road->(sa[i]' zO).theirs < x.nonce) (hh:∀ h∈hb,h.road=bk sa[n].road->x.nonce<=h.mine)
  (hg:∀ t∈sb,¬ t.give=sa[n].take):CS (sa.set n (de sa[n] x)) sb hb:=by
 obtain⟨r,e⟩:=K.a0
 have h0:¬ n=0:=fun hc=>by subst hc;simp [e,subA0] at h1
 have mem:∀ s∈sa.set n (de sa[n] x),s∈sa\/s=de sa[n] x:=fun s hs=>K7 hs
 refine⟨⟨r.set (n - 1) (de sa[n] x),?_⟩,K.b0,?_,fun s hs g=>?_,fun s hs g t ht gt=>?_,fun s hs t ht gt=>?_,fun s hs g=>?_⟩
 ·obtain⟨m,rfl⟩:∃ m,n=m+1:=⟨n - 1,zO⟩
  conv=>lhs;rw [show sa.set (m+1) (de sa[m+1] x)=(subA0::r).set (m+1) (de sa[m+1] x) by rw [<-e]]
  rw [LJ,LY]
 ·refine Ff hn K.pw (fun i hi hr=>?_) (fun j hj hl hr=>?_)
  ·exact⟨(Later.at K.pw zO hn hi hr).1,.inr (ho i hi hr)⟩
  have:=(Later.at K.pw hn hj hl hr).1
  omega
 ·rcases mem s hs with hs|rfl
  ·exact K.hl s hs g
  exact hh
 ·rcases mem s hs with hs|rfl
  ·exact K.on s hs g t ht gt
  exact absurd gt (hg t ht)
 ·rcases mem s hs with hs|rfl
  ·exact K.xx s hs t ht gt
  exact absurd gt (hg t ht)
 rcases mem s hs with hs|rfl
 ·exact K.tr s hs g
 simp [de]
theorem CS.ack {sa sb:List SubD} {hb:List HalfD} (K:CS sa sb hb) {n:Nat} (hn:n < sa.length) (h2:sa[n].state=2):CS (sa.set n { sa[n] with state:=3 }) sb hb:=by
 obtain⟨r,e⟩:=K.a0
 have h0:¬ n=0:=fun hc=>by subst hc;simp [e,subA0] at h2
 have mem:∀ s∈sa.set n { sa[n] with state:=3 },s∈sa\/s={ sa[n] with state:=3 }:=fun s hs=>K7 hs
 have hm:=K0 hn
 refine⟨⟨r.set (n - 1) { sa[n] with state:=3 },?_⟩,K.b0,?_,fun s hs g=>?_,fun s hs g t ht gt=>?_,fun s hs t ht gt=>?_,fun s hs g=>?_⟩
 ·obtain⟨m,rfl⟩:∃ m,n=m+1:=⟨n - 1,zO⟩
  conv=>lhs;rw [show sa.set (m+1) { sa[m+1] with state:=3 }=(subA0::r).set (m+1) { sa[m+1] with state:=3 } by rw [<-e]]
  rw [LJ,LY]
 ·refine Ff hn K.pw (fun i hi hr=>?_) (fun j hj hl hr=>?_)
  ·obtain⟨q1,q2⟩:=Later.at K.pw zO hn hi hr
   exact⟨q1,.inr (by rcases q2 with q2|q2;omega;exact q2)⟩
  have:=(Later.at K.pw hn hj hl hr).1
  omega
 ·rcases mem s hs with hs|rfl
  ·exact K.hl s hs g
  exact K.hl sa[n] hm zO
 ·rcases mem s hs with hs|rfl
  ·exact K.on s hs g t ht gt
  exact K.on sa[n] hm zO t ht gt
 ·rcases mem s hs with hs|rfl
  ·exact K.xx s hs t ht gt
  exact K.xx sa[n] hm t ht gt
 rcases mem s hs with hs|rfl
 ·exact K.tr s hs g
 simp at g
theorem sh {w:WorldD} (C:Core w) {s t:SubD} (hs:s∈w.a.subs) (ht:t∈w.a.subs) (h:1000<=s.mine) (e:s.mine=t.mine):s=t:=by
 have h1:=(C.sa s hs).mine
 have h2:=(C.sa t ht).mine
 exact iB C.sad hs ht zO
theorem CS.done {w:WorldD} (C:Core w) (K:CS w.a.subs w.b.subs w.b.halfs) {h:HalfD} (hh:h∈w.b.halfs) (hn:w.nums=[]) {m:List SubD} (a:SubD) (ha:a∈w.a.subs) (a1:¬ a.state=1) (a2:a.mine=h.theirs) (a3:a.theirs=h.mine) (a4:h.road=bk a.road) (a5:1000<=a.mine)
  (hm:m=w.b.subs\/∃ (n:Nat) (hn:n < w.b.subs.length),w.b.subs[n].road=h.road/\¬ w.b.subs[n].state=4/\m=w.b.subs.set n { w.b.subs[n] with state:=4 }):
  CS w.a.subs (m++[dM h.road h]) (aS w.b.halfs h.road):=by
 obtain⟨r,e⟩:=K.b0
 have H:=C.hb h hh
 obtain⟨s3,s31,s32,s33,s34,s35⟩:∃ s∈w.a.subs,1000<=s.mine/\s.mine=h.theirs/\s.take=h.give/\s.road=bk h.road:=by
  rcases H.th with g|⟨_,g⟩
  ·rcases g with g|g
   ·omega
   rw [hn] at g;simp at g
  exact g
 have ea:a=s3:=sh C ha s31 a5 zO
 subst ea
 have hnew:∀ t∈m,(t∈w.b.subs\/∃ q∈w.b.subs,q.road=h.road/\¬ q.state=4/\t={ q with state:=4 }):=by
  intro t ht
  rcases hm with rfl|⟨n,hn,e1,e2,rfl⟩
  ·exact .inl ht
  rcases K7 ht with ht|ht
  ·exact .inl ht
  exact .inr ⟨_,K0 hn,e1,e2,ht⟩
 have mem:∀ t∈m++[dM h.road h],t∈m\/t=dM h.road h:=fun t ht=>by
  rcases K2.1 ht with ht|ht
  ·exact .inl ht
  exact .inr (K1.1 ht)
 have hsub:∀ k∈aS w.b.halfs h.road,k∈w.b.halfs:=fun k hk=>by
  rw [aS] at hk;split at hk
  ·exact hk
  exact (ku _ _).subset hk
 have hmine:∀ s∈w.a.subs,h.give=s.take->s=a:=fun s hs hg=>iB C.sad hs ha (by rw [s34];exact hg.symm)
 refine⟨K.a0,?_,K.pw,fun s hs g k hk=>K.hl s hs g k (hsub k hk),fun s hs g t ht gt=>?_,fun s hs t ht gt=>?_,K.tr⟩
 ·rcases hm with rfl|⟨n,hn,e1,e2,rfl⟩
  ·exact⟨r++[dM h.road h],by rw [e,L9]⟩
  have h0:¬ n=0:=fun hc=>by
   subst hc
   have e3:w.b.subs[0]=subB0:=by simp [e]
   rw [e3,a4] at e1
   have:a.road=rdA:=by
    have:=congrArg bk e1
    rw [ee] at this
    rw [<-this];rfl
   have:=K.first ha this
   rw [this] at a5
   simp [subA0] at a5
  obtain⟨k,rfl⟩:∃ k,n=k+1:=⟨n - 1,zO⟩
  refine⟨r.set k { w.b.subs[k+1] with state:=4 }++[dM h.road h],?_⟩
  conv=>lhs;rw [show w.b.subs.set (k+1) { w.b.subs[k+1] with state:=4 }=(subB0::r).set (k+1) { w.b.subs[k+1] with state:=4 } by rw [<-e]]
  rw [LJ,L9]
 ·rcases mem t ht with ht|rfl
  ·rcases hnew t ht with ht|⟨q,q1,q2,q3,rfl⟩
   ·exact K.on s hs g t ht gt
   exfalso
   have gt':q.give=s.take:=gt
   obtain⟨z,z1,z2,z3,z4,z5⟩:=(C.sb q q1).like
   have ez:z=s:=iB C.sad z1 hs (by rw [z4];exact gt')
   subst ez
   have hrd:z.road=a.road:=by rw [z3,q2,s35]
   by_cases hza:z=a
   ·subst hza
    have:=(C.sa z hs).th.2 h hh a3.symm
    exact H.sep q q1 (by rw [this.2.1,z5])
   obtain⟨i,hi,ei⟩:=K6 hs
   obtain⟨j,hj,ej⟩:=K6 ha
   rcases Lu i j with hl|hl|hl
   ·have:=(Later.at K.pw hi hj hl (by rw [ei,ej];exact hrd)).1
    rw [ei] at this
    exact g this
   ·subst hl;exact hza (by rw [<-ei,ej])
   have:=(Later.at K.pw hj hi hl (by rw [ei,ej];exact hrd.symm)).2
   rw [ei,ej] at this
   have h2:=K.hl z hs z2 h hh (by rw [hrd];exact a4)
   rcases this with q|q
   ·exact z2 q
   omega
  rfl
 rcases mem t ht with ht|rfl
 ·rcases hnew t ht with ht|⟨q,q1,q2,q3,rfl⟩
  ·exact K.xx s hs t ht gt
  exact K.xx s hs q q1 gt
 have:=hmine s hs gt
 subst this
 exact⟨a2.symm,a3.symm⟩
theorem C4 {e:EndD} {x:LetterD} {Q:EndD×List LetterD->Prop} (h0:Q (e,[])) (h1:x.kind=1->Q (ay e x)) (h2:x.kind=2->Q (aT e x)) (h4:x.kind=4->Q (bs e x)) (h5:x.kind=5->Q (aC e x)) (h6:x.kind=6->Q (ao e x)) (h7:x.kind=7->Q (aE e x)) (h8:x.kind=8->Q (bH e x)) (h9:x.kind=9->Q (bI e x)) (h10:x.kind=10->Q (bJ e x)) (h11:x.kind=11->Q (bK e x)) (h12:x.kind=12->Q (bB e x)) (h13:x.kind=13->Q (bg e x)):Q (hear e x):=by
 by_cases hc:bL e x=true
 ·by_cases k1:x.kind=1
  ·rw [re hc k1];exact h1 k1
  by_cases k2:x.kind=2
  ·rw [rf hc k2];exact h2 k2
  by_cases k4:x.kind=4
  ·rw [nr hc k4];exact h4 k4
  by_cases k5:x.kind=5
  ·rw [nu hc k5];exact h5 k5
  by_cases k6:x.kind=6
  ·rw [nv hc k6];exact h6 k6
  by_cases k7:x.kind=7
  ·rw [ny hc k7];exact h7 k7
  by_cases k8:x.kind=8
  ·rw [rg hc k8];exact h8 k8
  by_cases k9:x.kind=9
  ·rw [rh hc k9];exact h9 k9
  by_cases k10:x.kind=10
  ·rw [mg hc k10];exact h10 k10
  by_cases k11:x.kind=11
  ·rw [mh hc k11];exact h11 k11
  by_cases k12:x.kind=12
  ·rw [mi hc k12];exact h12 k12
  by_cases k13:x.kind=13
  ·rw [mj hc k13];exact h13 k13
  rw [hear,if_pos hc,if_neg k1,if_neg k2,if_neg k4,if_neg k5,if_neg k6,if_neg k7,if_neg k8,if_neg k9,if_neg k10,if_neg k11,if_neg k12,if_neg k13];exact h0
 rw [nq (by simpa using hc)];exact h0
def GA (sb:List SubD) (s:SubD):Prop:=(s.give=0\/s.give=s.theirs+2\/∃ t∈sb,t.take=s.give)/\∀ t∈sb,t.take=s.give->t.give=s.take
def LC (w:WorldD) (x:LetterD):Prop:=sideAt x.to=1->x.kind=5->∀ m,x.tag=⟨1,w.b.key,w.a.key,x.nonce,m⟩->Loose w.nums m\/(x.give=x.nonce+2/\∀ t∈w.b.subs,t.take=x.give->t.give=m+2)
theorem GA.like {sb:List SubD} {s r:SubD} (h:GA sb s) (h1:r.give=s.give) (h2:r.theirs=s.theirs) (h3:r.take=s.take):GA sb r:=by
 unfold GA at h⊢;rw [h1,h2,h3];exact h
theorem GA.zero {w:WorldD} (C:Core w) {s:SubD} (h:s.give=0):GA w.b.subs s:=⟨.inl h,fun t ht e=>by have:=(C.sb t ht).t4;omega⟩
structure HA (w:WorldD) (x:LetterD) (r:EndD×List LetterD):Prop where
 ga:(∀ s∈w.a.subs,GA w.b.subs s)->∀ s∈r.1.subs,GA w.b.subs s
 lt:∀ y∈r.2,¬ y.kind=11/\(y.kind=5->y.tag.one=w.a.key)
 ip:r.1.inp=w.a.inp\/(x.kind=11/\(∃ s∈w.a.subs,s.take=x.sgn)/\r.1.inp=putPiece w.a.inp x.pos x.text)
theorem Ij {y:LetterD} {P:LetterD->Prop} (h:P y):∀ z∈[y],P z:=fun z hz=>by rw [K1.1 hz];exact h
theorem HA.stay {w:WorldD} {x:LetterD}:HA w x (w.a,[]):=⟨fun h=>h,fun y hy=>by simp at hy,.inl rfl⟩
structure NewB (w:WorldD) (m:List SubD):Prop where
 ev:∀ t∈w.b.subs,∃ t'∈m,t'.road=t.road/\t'.take=t.take/\t'.give=t.give
 nb:∀ t'∈m,(∃ t∈w.b.subs,t'.take=t.take/\t'.give=t.give)\/∃ q∈w.b.halfs,t'.take=q.take/\t'.give=q.give/\∃ r∈w.a.subs,1000<=r.mine/\r.mine=q.theirs/\r.take=q.give
 pw:(w.b.subs.Pairwise fun s t=>¬ s.take=t.take)->m.Pairwise fun s t=>¬ s.take=t.take
theorem NewB.keep {w:WorldD} {m:List SubD} (K:SubsKeep w.b.subs m):NewB w m:=
 ⟨fun t ht=>by obtain⟨u,u1,u2⟩:=K.new ht;exact⟨u,u1,u2.road,u2.take,u2.give⟩,fun t ht=>by obtain⟨u,u1,u2⟩:=K.old ht;exact .inl ⟨u,u1,u2.take,u2.give⟩,K.pw⟩
structure HB (w:WorldD) (x:LetterD) (r:EndD×List LetterD):Prop where
 nb:NewB w r.1.subs
 lt:∀ y∈r.2,¬ y.kind=11/\(y.kind=5->y.give=y.nonce+2/\∀ t∈r.1.subs,¬ t.take=y.give)
 ip:r.1.inp=w.b.inp\/(x.kind=11/\(∃ s∈w.b.subs,s.take=x.sgn)/\r.1.inp=putPiece w.b.inp x.pos x.text)
theorem HB.stay {w:WorldD} {x:LetterD}:HB w x (w.b,[]):=⟨.keep (SubsKeep.refl _),fun y hy=>by simp at hy,.inl rfl⟩
inductive HF (e:EndD) (x:LetterD):EndD×List LetterD->Prop
 |stay:HF e x (e,[])
 |other (r:EndD×List LetterD) (k:x.kind=1\/x.kind=2\/x.kind=10\/x.kind=13):HF e x r
 |join1 (k:x.kind=4) (ok:ji e x=true) (n:Nat) (hn:n < e.halfs.length) (hr:e.halfs[n].road=roadOf x) (h1:e.halfs[n].theirs=x.nonce) (h2:e.halfs[n].give=x.give):
   HF e x ({ e with bucket:=(bf e.bucket).1,halfs:=e.halfs.set n { e.halfs[n] with till:=e.now+6 } },[bP e (roadOf x) e.halfs[n]])
 |join2 (k:x.kind=4) (ok:ji e x=true) (no:dq e x=false):
   HF e x ({ e with bucket:=(bf e.bucket).1,draw:=e.draw+4,halfs:=(aF e.halfs (ai e x)).1 },[bP e (roadOf x) (ai e x)])
 |back (k:x.kind=5) (n:Nat) (hn:n < e.subs.length) (h1:e.subs[n].state=1) (hr:e.subs[n].road=roadOf x) (ht:x.tag=⟨1,e.peer,e.key,x.nonce,e.subs[n].mine⟩):
   HF e x ({ e with subs:=e.subs.set n (de e.subs[n] x) },[bi e (de e.subs[n] x)])
 |done1 (k:x.kind=6) (i:Nat) (hi:i < e.halfs.length) (hr:e.halfs[i].road=roadOf x) (h8:e.subs.length < 8) (ht:x.tag=⟨2,e.peer,e.key,e.halfs[i].theirs,e.halfs[i].mine⟩) (m:List SubD)
   (hm:m=e.subs\/∃ (n:Nat) (hn:n < e.subs.length),e.subs[n].road=roadOf x/\¬ e.subs[n].state=4/\m=e.subs.set n { e.subs[n] with state:=4 }):
   HF e x ({ e with subs:=m++[dM (roadOf x) e.halfs[i]],halfs:=aS e.halfs (roadOf x) },[dU (roadOf x) e.halfs[i].give])
 |done2 (k:x.kind=6) (n:Nat) (hn:n < e.subs.length) (h3:e.subs[n].state=3) (hr:e.subs[n].road=roadOf x) (ht:x.tag=⟨2,e.peer,e.key,e.subs[n].theirs,e.subs[n].mine⟩):
   HF e x (e,[dU (roadOf x) e.subs[n].give])
 |ack (k:x.kind=7) (n:Nat) (hn:n < e.subs.length) (h2:e.subs[n].state=2) (hr:e.subs[n].road=roadOf x) (ht:e.subs[n].take=x.sgn):
   HF e x ({ e with subs:=e.subs.set n { e.subs[n] with state:=3 } },[])
 |addr (k:x.kind=8) (n:Nat) (hn:n < e.subs.length) (h3:e.subs[n].state=3) (hr:e.subs[n].road=roadOf x) (hs:e.subs[n].take=x.sgn) (ht:x.tag=⟨3,e.peer,e.key,x.id,x.addr⟩) (hp:(aA e.far (gd x)).2=true):
   HF e x ({ e with far:=(aA e.far (gd x)).1 },[og x e.subs[n].give])
 |echo (k:x.kind=9) (i:Nat) (hi:i < e.own.length) (h1:e.own[i].id=x.id) (h2:e.own[i].addr=x.addr):
   HF e x ({ e with own:=e.own.set i { e.own[i] with told:=true } },[])
 |data (k:x.kind=11) (n:Nat) (hn:n < e.subs.length) (h3:e.subs[n].state=3) (hr:e.subs[n].road=roadOf x) (hs:e.subs[n].take=x.sgn):
   HF e x ({ e with inp:=qQ e x },[qT x e.subs[n].give (nextOf (qQ e x))])
 |came (k:x.kind=12) (n:Nat) (hn:n < e.subs.length) (h3:e.subs[n].state=3) (hr:e.subs[n].road=roadOf x) (hs:e.subs[n].take=x.sgn):
   HF e x ({ e with out:=came e.out x.pos },[])
theorem eJ (e:EndD) (x:LetterD):HF e x (hear e x):=by
 refine C4 .stay (fun k=>.other _ zO) (fun k=>.other _ zO) (fun k=>?_) (fun k=>?_) (fun k=>?_) (fun k=>?_) (fun k=>?_) (fun k=>?_) (fun k=>.other _ zO) (fun k=>?_) (fun k=>?_) (fun k=>.other _ zO)
 ·by_cases h:ji e x=true
  ·by_cases hs:dq e x=true
   ·have hs':=hs
    simp only [dq,KZ,decide_eq_true_eq] at hs'
    obtain⟨n,e1,hn,hr⟩:=f7 hs'.1.1
    have hj:ld e x=e.halfs[n]:=by rw [ld,e1,K4,df hn]
    rw [hj] at hs'
    rw [HX h hs e1 hn]
    exact .join1 k h n hn hr hs'.1.2 hs'.2
   have hs':dq e x=false:=by simpa using hs
   rw [HY h hs']
   exact .join2 k h hs'
  rw [JB (by simpa using h)];exact .stay
 ·by_cases h:l_ e x=true
  ·have h':=h
   simp only [l_,KZ,decide_eq_true_eq] at h'
   obtain⟨⟨⟨_,q4⟩,q5⟩,q6⟩:=h'
   obtain⟨n,e1,hn,_,hr,_⟩:=iA q4
   rw [e1,K4,cd hn] at q5 q6
   rw [HV h e1 hn]
   exact .back k n hn q5 hr q6
  rw [HU (by simpa using h)];exact .stay
 ·by_cases h:kB e x=true
  ·by_cases ha:oe e x=true
   ·have ha':=ha
    simp only [oe,KZ,decide_eq_true_eq] at ha'
    obtain⟨i,e1,hi,hr⟩:=f7 ha'.1.1
    have hj:ld e x=e.halfs[i]:=by rw [ld,e1,K4,df hi]
    rw [hj] at ha'
    rcases gH e.subs (roadOf x) with g|g
    ·rw [Hj h ha e1 hi g]
     exact .done1 k i hi hr ha'.1.2 ha'.2 _ (.inl rfl)
    obtain⟨n,e2,hn,n4,hrn,_⟩:=iA g.1
    rw [Hi h ha e1 hi e2 hn]
    exact .done1 k i hi hr ha'.1.2 ha'.2 _ (.inr ⟨n,hn,hrn,n4,rfl⟩)
   have ha':oe e x=false:=by simpa using ha
   by_cases hb:Cj e x=true
   ·have hb':=hb
    simp only [Cj,KZ,decide_eq_true_eq] at hb'
    obtain⟨n,e2,hn,n4,hrn,_⟩:=iA hb'.1.1
    have hj:FG e x=e.subs[n]:=by rw [FG,e2,K4,cd hn]
    rw [hj] at hb'
    rw [JA h ha' hb e2 hn]
    exact .done2 k n hn hb'.1.2 hrn hb'.2
   rw [Ew h ha' (by simpa using hb)];exact .stay
  rw [HW (by simpa using h)];exact .stay
 ·rw [aE];(try dsimp only);split
  ·rename_i hk
   simp only [iu,KZ,decide_eq_true_eq] at hk
   obtain⟨⟨⟨_,q3⟩,q4⟩,q5⟩:=hk
   obtain⟨n,e1,hn,_,hr,_⟩:=iA q3
   rw [e1,K4] at q4 q5⊢
   rw [cd hn] at q4 q5
   rw [cZ hn]
   exact .ack k n hn q4 hr q5
  exact .stay
 ·by_cases h:gk e x=true
  ·have h':=h
   simp only [gk,KZ,decide_eq_true_eq] at h'
   obtain⟨⟨⟨⟨q1,q2⟩,q3⟩,q4⟩,q5⟩:=h'
   obtain⟨n,e1,_,hn,h3,hs,hr,_⟩:=vI q1
   rw [qs h e1 hn]
   exact .addr k n hn h3 hr hs q2 q5
  rw [qr (by simpa using h)];exact .stay
 ·by_cases h:fw e x=true
  ·have h':=h
   simp only [fw,KZ,decide_eq_true_eq] at h'
   obtain⟨i,e1,hi,h1⟩:=jW h'.1.2
   rw [qu h e1 hi]
   have h2:=h'.2
   rw [e1,K4,eX hi] at h2
   exact .echo k i hi h1 h2
  rw [qt (by simpa using h)];exact .stay
 ·by_cases h:jM e x=true
  ·have h':=h
   simp only [jM,KZ,decide_eq_true_eq] at h'
   obtain⟨n,e1,_,hn,h3,hs,hr,_⟩:=vI h'.1
   rw [rc h e1 hn]
   exact .data k n hn h3 hr hs
  rw [q_ (by simpa using h)];exact .stay
 rw [bB];(try dsimp only);split
 ·rename_i hk
  obtain⟨n,_,_,hn,h3,hs,hr,_⟩:=vI hk
  exact .came k n hn h3 hr hs
 exact .stay
def Shape (b:Int) (l:List AddrD):Prop:=∃ (s t:Bool) (r:List AddrD),l=⟨0,b+1,s,t⟩::r/\∀ q∈r,q.id=1/\q.addr=b+2
def Am (b:Int) (a:AddrD):Prop:=a.id=0/\a.addr=b+1\/a.id=1/\a.addr=b+2
theorem Shape.fits {b:Int} {l:List AddrD} (h:Shape b l) {a:AddrD} (ha:a∈l):Am b a:=by
 obtain⟨s,t,r,rfl,hr⟩:=h
 rcases Lf.1 ha with rfl|ha
 ·exact .inl ⟨rfl,rfl⟩
 exact .inr (hr a ha)
theorem Fg {c:AddrD} {r:List AddrD} {n:Int} (h:c.id=n):aB (c::r) n=0:=by
 have:=(fC (p:=fun a:AddrD=>a.id == n) (l:=c::r) (j:=0)).2 ⟨zP,by simpa using h,fun i hi=>by omega⟩
 exact this
theorem Shape.set {b:Int} {l:List AddrD} (h:Shape b l) {i:Nat} {a:AddrD} (hi:i < l.length) (h1:a.id=l[i].id) (h2:a.addr=l[i].addr):Shape b (l.set i a):=by
 obtain⟨s,t,r,rfl,hr⟩:=h
 rcases i with _|i
 ·refine⟨a.spare,a.told,r,?_,hr⟩
  simp only [LO] at h1 h2
  rw [List.set_cons_zero,<-h1,<-h2]
 refine⟨s,t,r.set i a,by rw [LJ],fun q hq=>?_⟩
 simp only [List.getElem_cons_succ] at h1 h2
 rcases K7 hq with hq|hq
 ·exact hr q hq
 rw [hq,h1,h2];exact hr _ (K0 _)
theorem Shape.put {b:Int} {l:List AddrD} (h:Shape b l) {a:AddrD} (ha:Am b a):Shape b (aA l a).1/\((aA l a).2=true->a∈(aA l a).1)/\∀ f∈l,∃ f'∈(aA l a).1,f'.id=f.id:=by
 have h':=h
 obtain⟨s,t,r,rfl,hr⟩:=h
 by_cases hok:bw (bF (⟨0,b+1,s,t⟩::r) a)=true
 ·rw [tI hok]
  dsimp only
  by_cases hat:0<=aB (⟨0,b+1,s,t⟩::r) a.id
  ·rw [bF,if_pos hat]
   obtain⟨n,e,hn,hid⟩:=jW hat
   rw [e,K4]
   refine⟨h'.set hn hid.symm ?_,fun _=>Lx hn a,fun f hf=>?_⟩
   ·have:=h'.fits (K0 hn)
    simp only [Am] at this ha
    omega
   obtain⟨j,hj,rfl⟩:=K6 hf
   by_cases hjn:j=n
   ·subst hjn;exact⟨a,Lx hn a,hid.symm⟩
   refine⟨_,Ls.2 ⟨j,by rw [La];exact hj,rfl⟩,?_⟩
   rw [Lb,if_neg zO]
  rw [bF,if_neg hat]
  have h1:a.id=1:=by
   rcases ha with ha|ha
   ·exact absurd (show 0<=aB (⟨0,b+1,s,t⟩::r) a.id by rw [Fg (by exact ha.1.symm)];exact K3 _) hat
   exact ha.1
  have hlow:ve (⟨0,b+1,s,t⟩::r) a.id=1:=by
   rw [ve,Ly,if_pos (by simp [h1])]
   have:(r.takeWhile fun q=>decide (q.id < a.id))=[]:=by
    cases r with
    |nil=>rfl
    |cons q r=>
     rw [Ly,if_neg]
     have:=(hr q (Lg ..)).1
     simp [this,h1]
   rw [this];rfl
  rw [hlow]
  refine⟨⟨s,t,a::r,rfl,fun q hq=>?_⟩,fun _=>by simp,fun f hf=>⟨f,?_,rfl⟩⟩
  ·rcases Lf.1 hq with rfl|hq
   ·exact⟨h1,by rcases ha with ha|ha<;>omega⟩
   exact hr q hq
  rcases Lf.1 hf with rfl|hf
  ·simp
  simp [hf]
 rw [m_ (by simpa using hok)]
 exact⟨h',fun h=>(by cases h),fun f hf=>⟨f,hf,rfl⟩⟩
theorem oK {f f':List AddrD} (hf:f.map AddrD.addr=f'.map AddrD.addr):∀ {l l':List AddrD} {acc:List RoadD},l.map AddrD.addr=l'.map AddrD.addr->fr f acc l=fr f' acc l'
 |[],[],acc,_=>rfl
 |[],_::_,acc,h=>by simp at h
 |_::_,[],acc,h=>by simp at h
 |a::l,a'::l',acc,h=>by
  simp only [Mf,List.cons.injEq] at h
  have e:(f.map fun b=>(⟨a.addr,b.addr,0⟩:RoadD))=f'.map fun b=>(⟨a'.addr,b.addr,0⟩:RoadD):=by
   have h1:(f.map fun b=>(⟨a.addr,b.addr,0⟩:RoadD))=(f.map AddrD.addr).map fun x=>(⟨a.addr,x,0⟩:RoadD):=by simp [Mn]
   have h2:(f'.map fun b=>(⟨a'.addr,b.addr,0⟩:RoadD))=(f'.map AddrD.addr).map fun x=>(⟨a'.addr,x,0⟩:RoadD):=by simp [Mn]
   rw [h1,h2,hf,h.1]
  rw [fr,fr,e]
  exact oK hf h.2
theorem sj {l l':List AddrD} (h:l.map AddrD.addr=l'.map AddrD.addr):tH l=tH l':=by
 cases l<;>cases l'<;>simp_all [tH]
theorem x6 {p:PolicyD} {o o' f f':List AddrD} (ho:o.map AddrD.addr=o'.map AddrD.addr) (hf:f.map AddrD.addr=f'.map AddrD.addr):wanted p o f=wanted p o' f':=by
 have l1:o.length=o'.length:=by have:=congrArg List.length ho;simpa using this
 have l2:f.length=f'.length:=by have:=congrArg List.length hf;simpa using this
 unfold wanted
 rw [l1,l2,oK hf ho,sj ho,sj hf]
def ones (b:Int) (two:Bool):List AddrD:=if two then [⟨0,b+1,false,false⟩,⟨1,b+2,false,false⟩] else [⟨0,b+1,false,false⟩]
def hasTwo (l:List AddrD):Bool:=l.any fun a=>a.id == 1
theorem Shape.ones {b:Int} {l:List AddrD} (h:Shape b l) (ok:AdOk l):l.map AddrD.addr=(Go.Proofs.YtdiiopjaebnmfaaGreat.ones b (hasTwo l)).map AddrD.addr:=by
 obtain⟨s,t,r,rfl,hr⟩:=h
 rcases r with _|⟨q,r⟩
 ·simp [hasTwo,Go.Proofs.YtdiiopjaebnmfaaGreat.ones]
 obtain⟨q1,q2⟩:=hr q (Lg ..)
 have:r=[]:=by
  rcases r with _|⟨z,r⟩
  ·rfl
  have p:=ok.pw
  simp only [LI] at p
  have h1:=(p.2.1 z (Lg ..)).1
  have h2:=(hr z zP).1
  omega
 subst this
 simp [hasTwo,Go.Proofs.YtdiiopjaebnmfaaGreat.ones,q1,q2]
def wants (p:PolicyD) (two far2:Bool):List RoadD:=wanted p (ones 10 two) (ones 20 far2)
theorem um {p:PolicyD} {o f:List AddrD} (ho:Shape 10 o) (oo:AdOk o) (hf:Shape 20 f) (of:AdOk f):wanted p o f=wants p (hasTwo o) (hasTwo f):=x6 (ho.ones oo) (hf.ones of)
theorem Ao:(pols.all fun p=>[false,true].all fun a=>[false,true].all fun b=>
  decide ((wants p a b).length<=4) && (wants p a b).contains rdA && decide ((wants p a b).Nodup) &&
  (wants p a b).all (fun r=>((ones 10 a).any fun q=>q.addr == r.own) && ((ones 20 b).any fun q=>q.addr == r.far) && decide (0<=r.port) && decide (r.port<=3)) &&
  (wants p false b).all (fun r=>(wants p a b).contains r) && (wants p a false).all (fun r=>(wants p a b).contains r))=true:=by decide+kernel
structure WantF (p:PolicyD) (a b:Bool):Prop where
 len:(wants p a b).length<=4
 first:rdA∈wants p a b
 nd:(wants p a b).Nodup
 el:∀ r∈wants p a b,(∃ q∈ones 10 a,q.addr=r.own)/\(∃ q∈ones 20 b,q.addr=r.far)/\0<=r.port/\r.port<=3
 up1:∀ r∈wants p false b,r∈wants p a b
 up2:∀ r∈wants p a false,r∈wants p a b
theorem ly {p:PolicyD} (hp:p∈pols) (a b:Bool):WantF p a b:=by
 have h:=Lm.1 Ao p hp
 have h:=Lm.1 h a (by cases a<;>simp)
 have h:=Lm.1 h b (by cases b<;>simp)
 simp only [KZ,decide_eq_true_eq,Lm,List.contains_iff_mem,LD,beq_iff_eq] at h
 obtain⟨⟨⟨⟨⟨h1,h2⟩,h3⟩,h4⟩,h5⟩,h6⟩:=h
 exact⟨h1,h2,h3,fun r hr=>by obtain⟨⟨⟨g1,g2⟩,g3⟩,g4⟩:=h4 r hr;exact⟨g1,g2,g3,g4⟩,h5,h6⟩
theorem sn {p:PolicyD} (hp:p∈pols) {a b a' b':Bool} (ha:a=true->a'=true) (hb:b=true->b'=true) {r:RoadD} (h:r∈wants p a b):r∈wants p a' b':=by
 have h1:r∈wants p a' b:=by
  cases a
  ·exact (ly hp a' b).up1 r h
  rw [ha rfl];exact h
 cases b
 ·exact (ly hp a' b').up2 r h1
 rw [hb rfl];exact h1
structure CL (w:WorldD) (x:LetterD):Prop where
 kind:4<=x.kind/\x.kind<=12/\¬ x.kind=10
 to:¬ sideAt x.to=0
 to2:x.kind=4\/x.kind=6->sideAt x.to=2
 to1:x.kind=5\/x.kind=7->sideAt x.to=1
 k4:x.kind=4->1000<=x.nonce
 k5:x.kind=5->∃ (j:Nat) (hj:j < w.a.subs.length),1000<=w.a.subs[j].mine/\x.tag=⟨1,w.b.key,w.a.key,x.nonce,w.a.subs[j].mine⟩/\w.a.subs[j].road=roadOf x/\x.nonce < w.b.draw/\
  (∀ (i:Nat) (hi:i < j),(w.a.subs[i]' zO).road=roadOf x->(w.a.subs[i]' zO).theirs < x.nonce)/\∀ h∈w.b.halfs,h.road=bk (roadOf x)->x.nonce<=h.mine
 k9:x.kind=9->sideAt x.to=2->x.id=1->∃ f∈w.a.far,f.id=1
 k12a:x.kind=12->sideAt x.to=1->x.pos<=nextOf w.b.inp
 k12b:x.kind=12->sideAt x.to=2->x.pos<=nextOf w.a.inp
structure CE (p:PolicyD) (w:WorldD):Prop where
 cs:CS w.a.subs w.b.subs w.b.halfs
 nums:w.nums=[]
 pol:w.a.policy=p
 ownA:Shape 10 w.a.own
 farA:Shape 20 w.a.far
 ownB:Shape 20 w.b.own
 farB:Shape 10 w.b.far
 done:w.a.done=[]/\w.b.done=[]
 over:w.a.over=[]/\w.b.over=[]
 room:w.a.out.room=120/\w.b.out.room=120
 told:∀ q∈w.b.own,q.id=1->q.told=true->∃ f∈w.a.far,f.id=1
 want:∀ s∈w.a.subs,s.road∈wants p (hasTwo w.a.own) (hasTwo w.a.far)
 baseA:w.a.out.base<=nextOf w.b.inp
 baseB:w.b.out.base<=nextOf w.a.inp
 hth:∀ h∈w.b.halfs,1000<=h.theirs
structure EvoA (l m:List SubD):Prop where
 len:l.length<=m.length
 at_:∀ (i:Nat) (h:i < l.length) (h':i < m.length),m[i].road=l[i].road/\m[i].mine=l[i].mine/\m[i].take=l[i].take/\(l[i].state=4->m[i].state=4/\m[i].theirs=l[i].theirs)
theorem EvoA.refl (l:List SubD):EvoA l l:=⟨Ma _,fun i h h'=>⟨rfl,rfl,rfl,fun h=>⟨h,rfl⟩⟩⟩
theorem EvoA.app (l r:List SubD):EvoA l (l++r):=⟨zP,fun i h h'=>by rw [List.getElem_append_left h];exact⟨rfl,rfl,rfl,fun h=>⟨h,rfl⟩⟩⟩
theorem EvoA.set {l:List SubD} {n:Nat} {s:SubD} (hn:n < l.length) (h1:s.road=l[n].road) (h2:s.mine=l[n].mine) (h3:s.take=l[n].take) (h4:¬ l[n].state=4):EvoA l (l.set n s):=by
 refine⟨zP,fun i h h'=>?_⟩
 rw [Lb]
 split
 ·rename_i e;subst e;exact⟨h1,h2,h3,fun h=>absurd h h4⟩
 exact⟨rfl,rfl,rfl,fun h=>⟨h,rfl⟩⟩
theorem EvoA.tick (l:List SubD):EvoA l (l.map aL):=⟨zP,fun i h h'=>by
 rw [L7]
 have k:=cO l[i]
 exact⟨k.road,k.mine,k.take,fun h4=>⟨by rw [pq h4];exact h4,k.theirs⟩⟩⟩
theorem EvoA.trans {l m n:List SubD} (h:EvoA l m) (g:EvoA m n):EvoA l n:=by
 refine⟨Lo h.len g.len,fun i hi hi'=>?_⟩
 have hm:i < m.length:=by have:=h.len;omega
 obtain⟨a1,a2,a3,a4⟩:=h.at_ i hi hm
 obtain⟨b1,b2,b3,b4⟩:=g.at_ i hm hi'
 refine⟨b1.trans a1,b2.trans a2,b3.trans a3,fun hs=>?_⟩
 obtain⟨c1,c2⟩:=a4 hs
 obtain⟨d1,d2⟩:=b4 c1
 exact⟨d1,d2.trans c2⟩
theorem CL.mono {w w':WorldD} {x:LetterD} (L:CL w x) (P:w.a.subs.Pairwise Later) (E:Le w w') (ea:EvoA w.a.subs w'.a.subs) (fa:∀ f∈w.a.far,∃ f'∈w'.a.far,f'.id=f.id) (na:nextOf w.a.inp<=nextOf w'.a.inp) (nb:nextOf w.b.inp<=nextOf w'.b.inp):CL w' x:=by
 refine⟨L.kind,L.to,L.to2,L.to1,L.k4,fun k=>?_,fun k h1 h2=>?_,fun k h1=>?_,fun k h1=>?_⟩
 ·obtain⟨j,hj,a1,a2,a3,a4,a5,a6⟩:=L.k5 k
  have hj':j < w'.a.subs.length:=by have:=ea.len;omega
  obtain⟨b1,b2,_,_⟩:=ea.at_ j hj hj'
  refine⟨j,hj',by rw [b2];exact a1,by rw [b2,E.ka,E.kb];exact a2,b1.trans a3,L3 a4 E.db,fun i hi hr=>?_,fun h hh hr=>?_⟩
  ·have hil:i < w.a.subs.length:=zO
   obtain⟨c1,c2,_,c3⟩:=ea.at_ i hil zO
   rw [c1] at hr
   have h4:=(Later.at P hil hj hi (by rw [hr,a3])).1
   rw [(c3 h4).2];exact a5 i hi hr
  rcases E.hb h hh with g|⟨q,q1,q2,_,_,q5⟩
  ·omega
  rw [<-q2];exact a6 q q1 (by rw [q5];exact hr)
 ·obtain⟨f,f1,f2⟩:=L.k9 k h1 h2
  obtain⟨f',g1,g2⟩:=fa f f1
  exact⟨f',g1,g2.trans f2⟩
 ·exact Lt (L.k12a k h1) nb
 exact Lt (L.k12b k h1) na
theorem BD {l:List SubD} (h:l.Pairwise fun s t=>¬ s.take=t.take) {i j:Nat} (hi:i < l.length) (hj:j < l.length) (e:l[i].take=l[j].take):i=j:=by
 rw [K5] at h
 rcases Lu i j with g|g|g
 ·exact absurd e (h i j hi hj g)
 ·exact g
 exact absurd e.symm (h j i hj hi g)
theorem x7 {l:List HalfD} (h:l.Pairwise fun a b=>¬ a.road=b.road) {s t:HalfD} (hs:s∈l) (ht:t∈l) (e:s.road=t.road):s=t:=by
 obtain⟨i,hi,rfl⟩:=K6 hs
 obtain⟨j,hj,rfl⟩:=K6 ht
 rw [K5] at h
 rcases Lu i j with g|g|g
 ·exact absurd e (h i j hi hj g)
 ·subst g;rfl
 exact absurd e.symm (h j i hj hi g)
theorem x8 (p:PiecesD) (n:Int) (t:List UInt8):(putPiece p n t).read=p.read/\∃ r,(putPiece p n t).ready=p.ready++r:=by
 unfold putPiece jL jf kN
 repeat' split
 all_goals first
  |exact⟨rfl,[],(Lj _).symm⟩
  |exact⟨rfl,_,rfl⟩
theorem x9 {p:PiecesD} {n:Int} {t:List UInt8} (hs:SmallP p) (ok:piecesOk p=true):nextOf p<=nextOf (putPiece p n t):=by
 rcases fU p n t with e|e
 ·rw [e];exact K3 _
 rw [(bh ok hs).next,(bh e (eZ hs)).next]
 obtain⟨h1,r,h2⟩:=x8 p n t
 rw [h1,h2,K8]
 omega
theorem uo {o:OutD} {n m:Int} (h:o.base<=m) (hn:n<=m):(came o n).base<=m:=by
 unfold came;split
 ·exact hn
 exact h
theorem uq {o:OutD} {n:Int}:(came o n).room=o.room:=by unfold came;split<;>rfl
theorem jZ {l m:List AddrD} (h:∀ f∈l,∃ f'∈m,f'.id=f.id) (k:hasTwo l=true):hasTwo m=true:=by
 simp only [hasTwo,LD,beq_iff_eq] at k⊢
 obtain⟨f,f1,f2⟩:=k
 obtain⟨g,g1,g2⟩:=h f f1
 exact⟨g,g1,g2.trans f2⟩
theorem GL {l:List AddrD} {i:Nat} (hi:i < l.length) {a:AddrD} (h:a.id=l[i].id):∀ f∈l,∃ f'∈l.set i a,f'.id=f.id:=by
 intro f hf
 obtain⟨j,hj,rfl⟩:=K6 hf
 by_cases e:i=j
 ·subst e;exact⟨a,Lx hi a,h⟩
 refine⟨l[j],Ls.2 ⟨j,by rw [La];exact hj,?_⟩,rfl⟩
 rw [Lb,if_neg e]
theorem sr {l:List HalfD} {r:RoadD}:aJ l r < 0↔∀ h∈l,¬ h.road=r:=by
 rw [aJ,nG]
 constructor
 ·intro h q hq e
  have:=h q hq
  rw [<-Mk,cg] at this
  exact this e
 intro h q hq
 rw [<-Mk,cg]
 exact h q hq
theorem Ap {l:List HalfD} {h:HalfD} (H:HaOk l) (hh:HaE h) (hl:¬ (aJ l h.road < 0/\4<=l.length)):cB (a_ l h)=true:=by
 rw [jV,a_]
 split
 ·rename_i h0
  obtain⟨n,e,hn,hr⟩:=f7 h0
  rw [e,K4]
  refine H.pt zP fun i h1 h2=>?_
  rw [Lb]
  split
  ·rename_i q;subst q;exact⟨hh,hr.symm⟩
  exact⟨H.el _ (K0 h2),rfl⟩
 rename_i h0
 have hno:=sr.1 (by omega:aJ l h.road < 0)
 refine⟨by rw [K8,Li];have:=H.len;omega,fun k hk=>?_,?_⟩
 ·rcases K2.1 hk with hk|hk
  ·exact H.el k hk
  rw [K1.1 hk];exact hh
 rw [Ln]
 exact⟨H.pw,Ld ..,fun a ha b hb=>by rw [K1.1 hb];exact hno a ha⟩
theorem mG (l:List HalfD) (h:HalfD):h∈a_ l h:=by
 rw [a_];split
 ·rename_i h0
  obtain⟨n,e,hn,_⟩:=f7 h0
  rw [e,K4]
  exact Lx hn h
 simp
theorem ss {l:List HalfD} {h k:HalfD} (hk:k∈(aF l h).1):k=h\/k∈l:=by
 rw [aF] at hk;split at hk
 ·dsimp only at hk
  rw [a_] at hk;split at hk
  ·rcases K7 hk with hk|hk
   ·exact .inr hk
   exact .inl hk
  rcases K2.1 hk with hk|hk
  ·exact .inr hk
  exact .inl (K1.1 hk)
 exact .inr hk
theorem ur {n:Int} (h:1000<=n):¬ Loose [] n:=by
 rintro (h1|h1)
 ·omega
 simp at h1
structure CStep (p:PolicyD) (w w':WorldD) (l:List LetterD):Prop where
 e:CE p w'
 ea:EvoA w.a.subs w'.a.subs
 fa:∀ f∈w.a.far,∃ f'∈w'.a.far,f'.id=f.id
 na:nextOf w.a.inp<=nextOf w'.a.inp
 nb:nextOf w.b.inp<=nextOf w'.b.inp
 ls:∀ y∈l,CL w' y
theorem su {w:WorldD} {y:LetterD} (k:y.kind=6\/y.kind=7\/y.kind=8\/y.kind=11) (h0:¬ sideAt y.to=0) (h2:y.kind=6->sideAt y.to=2) (h1:y.kind=7->sideAt y.to=1):CL w y:=
 ⟨zO,h0,fun h=>h2 zO,fun h=>h1 zO,fun h=>by omega,fun h=>by omega,fun h=>by omega,fun h=>by omega,fun h=>by omega⟩
theorem ig {w:WorldD} {y:LetterD} (h:CL w y):∀ z∈[y],CL w z:=fun z hz=>by rw [K1.1 hz];exact h
theorem j0 {w:WorldD}:∀ z∈([]:List LetterD),CL w z:=fun z hz=>by simp at hz
theorem KW:4<=(5:Int)/\(5:Int)<=12/\¬ (5:Int)=10:=by decide
theorem KX:4<=(9:Int)/\(9:Int)<=12/\¬ (9:Int)=10:=by decide
theorem JP:4<=(12:Int)/\(12:Int)<=12/\¬ (12:Int)=10:=by decide
theorem Hq {p:PolicyD} {w:WorldD} {x:LetterD} (hp:p∈pols) (C:Core w) (G:SmallP w.a.inp) (L:LetI w x) (E:CE p w) (X:CL w x) (hx:sideAt x.to=1):CStep p w (ff w (hear w.a x).1) (hear w.a x).2:=by
 have F:=eJ w.a x
 have S:=Fa C G L hx
 have kk:=X.kind
 generalize hear w.a x=r at F S⊢
 have same:∀ f∈w.a.far,∃ f'∈w.a.far,f'.id=f.id:=fun f hf=>⟨f,hf,rfl⟩
 have side:∀ {n:Nat} (hn:n < w.a.subs.length),sideAt w.a.subs[n].road.far=2:=fun hn=>(C.sa _ (K0 hn)).far
 cases F with
 |stay=>exact⟨E,EvoA.refl _,same,K3 _,K3 _,j0⟩
 |other r k=>omega
 |join1 k=>have:=X.to2 (.inl k);omega
 |join2 k=>have:=X.to2 (.inl k);omega
 |done1 k=>have:=X.to2 (.inr k);omega
 |done2 k=>have:=X.to2 (.inr k);omega
 |back k n hn h1 hr ht=>
  obtain⟨j,hj,a1,a2,a3,a4,a5,a6⟩:=X.k5 k
  have em:w.a.subs[n].mine=w.a.subs[j].mine:=congrArg TagD.b (ht.symm.trans a2)
  have hm:=K0 hn
  have ask:=(C.sa _ hm).ask (.inl h1)
  have e1:w.a.subs[n]=w.a.subs[j]:=sh C hm (K0 hj) ask em
  have enj:n=j:=BD C.sad hn hj (by rw [e1])
  subst enj
  have hg:∀ t∈w.b.subs,¬ t.give=w.a.subs[n].take:=fun t ht' hc=>by
   obtain⟨s,s1,s2,s3,s4,s5⟩:=(C.sb t ht').like
   have:=iB C.sad s1 hm (s4.trans hc)
   rw [this] at s2;exact s2 h1
  have K:=E.cs.back hn h1 (x:=x) (fun i hi hr'=>a5 i hi (hr'.trans hr)) (fun h hh hr'=>a6 h hh (by rw [hr',hr])) hg
  refine⟨⟨K,E.nums,E.pol,E.ownA,E.farA,E.ownB,E.farB,E.done,E.over,E.room,E.told,fun s hs=>?_,E.baseA,E.baseB,E.hth⟩,EvoA.set hn rfl rfl rfl zO,same,K3 _,K3 _,ig ?_⟩
  ·rcases K7 hs with hs|rfl
   ·exact E.want s hs
   exact E.want w.a.subs[n] hm
  have sd:=side hn
  exact su (.inl rfl) (by show ¬ sideAt w.a.subs[n].road.far=0;omega) (fun _=>sd) (fun h=>by cases h)
 |ack k n hn h2 hr ht=>
  have hm:=K0 hn
  refine⟨⟨E.cs.ack hn h2,E.nums,E.pol,E.ownA,E.farA,E.ownB,E.farB,E.done,E.over,E.room,E.told,fun s hs=>?_,E.baseA,E.baseB,E.hth⟩,EvoA.set hn rfl rfl rfl zO,same,K3 _,K3 _,j0⟩
  rcases K7 hs with hs|rfl
  ·exact E.want s hs
  exact E.want w.a.subs[n] hm
 |addr k n hn h3 hr hs ht hp1=>
  obtain⟨d1,d2⟩:=L.a8 hx k x.id x.addr (by rw [ht,C.pa])
  have hf:Am 20 (gd x):=by
   rcases d2 with⟨q,q1,q2,q3⟩|d2
   ·have:=E.ownB.fits q1
    simp only [Am,gd] at this⊢
    omega
   rw [E.done.2] at d2;simp at d2
  obtain⟨p1,p2,p3⟩:=E.farA.put hf
  refine⟨⟨E.cs,E.nums,E.pol,E.ownA,p1,E.ownB,E.farB,E.done,E.over,E.room,fun q hq h1 h2=>?_,fun s hs=>sn hp id (jZ p3) (E.want s hs),E.baseA,E.baseB,E.hth⟩,EvoA.refl _,p3,K3 _,K3 _,ig ?_⟩
  ·obtain⟨f,f1,f2⟩:=E.told q hq h1 h2
   obtain⟨f',g1,g2⟩:=p3 f f1
   exact⟨f',g1,g2.trans f2⟩
  have sd:=side hn
  rw [hr] at sd
  have sd:sideAt x.frm=2:=sd
  refine⟨KX,by show ¬ sideAt x.frm=0;omega,fun h=>(by rcases h with h|h<;>cases h),fun h=>(by rcases h with h|h<;>cases h),fun h=>(by cases h),fun h=>(by cases h),fun _ _ h1=>⟨gd x,p2 hp1,h1⟩,fun h=>(by cases h),fun h=>(by cases h)⟩
 |echo k i hi h1 h2=>
  refine⟨⟨E.cs,E.nums,E.pol,E.ownA.set hi rfl rfl,E.farA,E.ownB,E.farB,E.done,E.over,E.room,E.told,fun s hs=>sn hp (jZ (GL hi (a:={ w.a.own[i] with told:=true }) rfl)) id (E.want s hs),E.baseA,E.baseB,E.hth⟩,EvoA.refl _,same,K3 _,K3 _,j0⟩
 |data k n hn h3 hr hs=>
  have nx:=x9 (n:=x.pos) (t:=x.text) G C.oka.inp
  refine⟨⟨E.cs,E.nums,E.pol,E.ownA,E.farA,E.ownB,E.farB,E.done,E.over,E.room,E.told,E.want,E.baseA,Lt E.baseB nx,E.hth⟩,EvoA.refl _,same,nx,K3 _,ig ?_⟩
  have sd:=side hn
  rw [hr] at sd
  have sd:sideAt x.frm=2:=sd
  refine⟨JP,by show ¬ sideAt x.frm=0;omega,fun h=>(by rcases h with h|h<;>cases h),fun h=>(by rcases h with h|h<;>cases h),fun h=>(by cases h),fun h=>(by cases h),fun h=>(by cases h),fun _ h=>?_,fun _ h=>K3 _⟩
  have h:sideAt x.frm=1:=h
  omega
 |came k n hn h3 hr hs=>
  have ho:=X.k12a k hx
  exact⟨⟨E.cs,E.nums,E.pol,E.ownA,E.farA,E.ownB,E.farB,E.done,E.over,⟨uq.trans E.room.1,E.room.2⟩,E.told,E.want,uo E.baseA ho,E.baseB,E.hth⟩,EvoA.refl _,same,K3 _,K3 _,j0⟩
theorem ut {w:WorldD} {x:LetterD} (C:Core w) (ok:ji w.b x=true):aF w.b.halfs (ai w.b x)=(a_ w.b.halfs (ai w.b x),true):=by
 have hk:=ok
 simp only [ji,KZ,decide_eq_true_eq,cm,Lh,Bool.and_eq_false_iff,decide_eq_false_iff_not] at hk
 obtain⟨⟨⟨⟨⟨⟨⟨⟨⟨hk1,hk2⟩,_⟩,_⟩,_⟩,_⟩,hk6⟩,hk7⟩,hk8⟩,_⟩:=hk
 obtain⟨_,_,_,n4,n5,_⟩:=ja hk2
 have hne:HaE (ai w.b x):=by
  have n9:=C.okb.nums
  refine⟨uh hk2,n4,n9.2.2.1,n5,?_,?_⟩
  ·simp only [ai,N9];omega
  have:=n9.2.2.2.1
  simp only [ai,N9] at this⊢;omega
 refine m9 (Ap C.okb.halfs hne ?_)
 rintro⟨g1,g2⟩
 have g1:aJ w.b.halfs (roadOf x) < 0:=g1
 rcases hk6 with g|g<;>omega
theorem Hr {p:PolicyD} {w:WorldD} {x:LetterD} (hp:p∈pols) (C:Core w) (G:SmallP w.b.inp) (L:LetI w x) (E:CE p w) (X:CL w x) (hx:sideAt x.to=2):CStep p w (inB w (hear w.b x).1) (hear w.b x).2:=by
 have F:=eJ w.b x
 have S:=Fc C G L hx
 have kk:=X.kind
 generalize hear w.b x=r at F S⊢
 have same:∀ f∈w.a.far,∃ f'∈w.a.far,f'.id=f.id:=fun f hf=>⟨f,hf,rfl⟩
 have side:∀ {n:Nat} (hn:n < w.b.subs.length),sideAt w.b.subs[n].road.far=1:=fun hn=>(farB C (K0 hn)).1
 have thd:∀ s∈w.a.subs,s.theirs < w.b.draw:=fun s hs=>(C.sa s hs).th.1
 have asks:x.kind=4->∃ (j:Nat) (hj:j < w.a.subs.length),1000<=w.a.subs[j].mine/\x.nonce=w.a.subs[j].mine/\x.give=w.a.subs[j].take/\roadOf x=bk w.a.subs[j].road:=fun k=>by
  rcases L.b4 hx k with g|⟨s,s1,s2,s3,s4,s5⟩
  ·rw [E.nums] at g;exact absurd g (ur (X.k4 k))
  obtain⟨j,hj,rfl⟩:=K6 s1
  exact⟨j,hj,s2,s3,s4,s5⟩
 cases F with
 |stay=>exact⟨E,EvoA.refl _,same,K3 _,K3 _,j0⟩
 |other r k=>omega
 |back k=>have:=X.to1 (.inl k);omega
 |ack k=>have:=X.to1 (.inr k);omega
 |join1 k ok n hn hr h1 h2=>
  obtain⟨j,hj,s2,s3,s4,s5⟩:=asks k
  have hh:=K0 hn
  have H:=C.hb _ hh
  have m4:=H.m4
  have hold:∀ q∈w.b.halfs.set n { w.b.halfs[n] with till:=w.b.now+6 },∃ h∈w.b.halfs,h.mine=q.mine/\h.road=q.road/\h.theirs=q.theirs:=fun q hq=>by
   rcases K7 hq with hq|rfl
   ·exact⟨q,hq,rfl,rfl,rfl⟩
   exact⟨_,hh,rfl,rfl,rfl⟩
  refine⟨⟨E.cs.half thd fun q hq=>.inr (by obtain⟨g,g1,g2,g3,_⟩:=hold q hq;exact⟨g,g1,g2,g3⟩),E.nums,E.pol,E.ownA,E.farA,E.ownB,E.farB,E.done,E.over,E.room,E.told,E.want,E.baseA,E.baseB,fun q hq=>(by obtain⟨g,g1,_,_,g4⟩:=hold q hq;rw [<-g4];exact E.hth g g1)⟩,EvoA.refl _,same,K3 _,K3 _,ig ?_⟩
  have sd:sideAt (roadOf x).far=1:=by rw [s5];exact (C.sa _ (K0 hj)).own
  refine⟨KW,by show ¬ sideAt (roadOf x).far=0;omega,fun h=>(by rcases h with h|h<;>cases h),fun _=>sd,fun h=>(by cases h),fun _=>⟨j,hj,s2,?_,?_,?_,fun i hi e=>?_,fun q hq e=>?_⟩,fun h=>(by cases h),fun h=>(by cases h),fun h=>(by cases h)⟩
  ·show (⟨1,w.b.key,w.b.peer,w.b.halfs[n].mine,w.b.halfs[n].theirs⟩:TagD)=⟨1,w.b.key,w.a.key,w.b.halfs[n].mine,w.a.subs[j].mine⟩
   rw [C.pb,h1,s3]
  ·show w.a.subs[j].road=bk (roadOf x)
   rw [s5,ee]
  ·show w.b.halfs[n].mine < w.b.draw
   omega
  ·show w.a.subs[i].theirs < w.b.halfs[n].mine
   have e':w.a.subs[i].road=bk (roadOf x):=e
   rw [s5,ee] at e'
   have hil:i < w.a.subs.length:=zO
   have l4:=(Later.at E.cs.pw hil hj hi e').1
   have le:=E.cs.hl _ (K0 hil) zO _ hh (by rw [hr,s5,e'])
   have ne:¬ w.b.halfs[n].mine=w.a.subs[i].theirs:=fun hc=>by
    have:=((C.sa _ (K0 hil)).th.2 _ hh hc).1
    rw [h1,s3] at this
    have e2:=sh C (K0 hj) (K0 hil) s2 this
    have:=BD C.sad hj hil (by rw [e2])
    omega
   omega
  show w.b.halfs[n].mine<=q.mine
  obtain⟨h,q1,q2,q3,_⟩:=hold q hq
  have e':q.road=bk (bk (roadOf x)):=e
  rw [ee] at e'
  have:=x7 C.okb.halfs.pw q1 hh (by rw [q3,e',hr])
  rw [<-q2,this]
  exact K3 _
 |join2 k ok no=>
  obtain⟨j,hj,s2,s3,s4,s5⟩:=asks k
  have hput:=ut C ok
  have S':=S.c.okb.halfs.pw
  rw [hput] at S'⊢
  have hin:∀ q∈a_ w.b.halfs (ai w.b x),q=ai w.b x\/q∈w.b.halfs:=fun q hq=>ss (h:=ai w.b x) (by rw [hput];exact hq)
  refine⟨⟨E.cs.half thd fun q hq=>?_,E.nums,E.pol,E.ownA,E.farA,E.ownB,E.farB,E.done,E.over,E.room,E.told,E.want,E.baseA,E.baseB,fun q hq=>(by rcases hin q hq with rfl|hq;exact X.k4 k;exact E.hth q hq)⟩,EvoA.refl _,same,K3 _,K3 _,ig ?_⟩
  ·rcases hin q hq with rfl|hq
   ·exact .inl (K3 _)
   exact .inr ⟨q,hq,rfl,rfl⟩
  have sd:sideAt (roadOf x).far=1:=by rw [s5];exact (C.sa _ (K0 hj)).own
  refine⟨KW,by show ¬ sideAt (roadOf x).far=0;omega,fun h=>(by rcases h with h|h<;>cases h),fun _=>sd,fun h=>(by cases h),fun _=>⟨j,hj,s2,?_,?_,?_,fun i hi e=>?_,fun q hq e=>?_⟩,fun h=>(by cases h),fun h=>(by cases h),fun h=>(by cases h)⟩
  ·show (⟨1,w.b.key,w.b.peer,w.b.draw,x.nonce⟩:TagD)=⟨1,w.b.key,w.a.key,w.b.draw,w.a.subs[j].mine⟩
   rw [C.pb,s3]
  ·show w.a.subs[j].road=bk (roadOf x)
   rw [s5,ee]
  ·show w.b.draw < w.b.draw+4
   omega
  ·exact thd _ (K0 zO)
  show w.b.draw<=q.mine
  have e':q.road=bk (bk (roadOf x)):=e
  rw [ee] at e'
  have:=x7 S' hq (mG _ _) e'
  rw [this]
  exact K3 _
 |done1 k i hi hr h8 ht m hm=>
  have hh:=K0 hi
  obtain⟨s,s1,s2,s3,s4,s5,s6⟩:=L.b6 hx k w.b.halfs[i].theirs w.b.halfs[i].mine (by rw [ht,C.pb])
  have hm':=hm
  rw [<-hr] at hm'
  have K:=CS.done C E.cs hh E.nums s s1 s2 s4.symm s5.symm (by rw [hr,s6]) s3 hm'
  rw [hr] at K
  refine⟨⟨K,E.nums,E.pol,E.ownA,E.farA,E.ownB,E.farB,E.done,E.over,E.room,E.told,E.want,E.baseA,E.baseB,fun q hq=>E.hth q (jU.1 q hq)⟩,EvoA.refl _,same,K3 _,K3 _,ig ?_⟩
  have sd:sideAt (roadOf x).far=1:=by rw [s6];exact (C.sa _ s1).own
  exact su (.inr (.inl rfl)) (by show ¬ sideAt (roadOf x).far=0;omega) (fun h=>by cases h) (fun _=>sd)
 |done2 k n hn h3 hr ht=>
  have sd:=side hn
  rw [hr] at sd
  exact⟨E,EvoA.refl _,same,K3 _,K3 _,ig (su (.inr (.inl rfl)) (by show ¬ sideAt (roadOf x).far=0;omega) (fun h=>by cases h) (fun _=>sd))⟩
 |addr k n hn h3 hr hs ht hp1=>
  obtain⟨d1,d2⟩:=L.b8 hx k x.id x.addr (by rw [ht,C.pb])
  have hf:Am 10 (gd x):=by
   rcases d2 with⟨q,q1,q2,q3⟩|d2
   ·have:=E.ownA.fits q1
    simp only [Am,gd] at this⊢
    omega
   rw [E.done.1] at d2;simp at d2
  obtain⟨p1,p2,p3⟩:=E.farB.put hf
  refine⟨⟨E.cs,E.nums,E.pol,E.ownA,E.farA,E.ownB,p1,E.done,E.over,E.room,E.told,E.want,E.baseA,E.baseB,E.hth⟩,EvoA.refl _,same,K3 _,K3 _,ig ?_⟩
  have sd:=side hn
  rw [hr] at sd
  have sd:sideAt x.frm=1:=sd
  refine⟨KX,by show ¬ sideAt x.frm=0;omega,fun h=>(by rcases h with h|h<;>cases h),fun h=>(by rcases h with h|h<;>cases h),fun h=>(by cases h),fun h=>(by cases h),fun _ h=>?_,fun h=>(by cases h),fun h=>(by cases h)⟩
  have h:sideAt x.frm=2:=h
  omega
 |echo k i hi h1 h2=>
  refine⟨⟨E.cs,E.nums,E.pol,E.ownA,E.farA,E.ownB.set hi rfl rfl,E.farB,E.done,E.over,E.room,fun q hq g1 g2=>?_,E.want,E.baseA,E.baseB,E.hth⟩,EvoA.refl _,same,K3 _,K3 _,j0⟩
  rcases K7 hq with hq|rfl
  ·exact E.told q hq g1 g2
  exact X.k9 k hx (h1.symm.trans g1)
 |data k n hn h3 hr hs=>
  have nx:=x9 (n:=x.pos) (t:=x.text) G C.okb.inp
  refine⟨⟨E.cs,E.nums,E.pol,E.ownA,E.farA,E.ownB,E.farB,E.done,E.over,E.room,E.told,E.want,Lt E.baseA nx,E.baseB,E.hth⟩,EvoA.refl _,same,K3 _,nx,ig ?_⟩
  have sd:=side hn
  rw [hr] at sd
  have sd:sideAt x.frm=1:=sd
  refine⟨JP,by show ¬ sideAt x.frm=0;omega,fun h=>(by rcases h with h|h<;>cases h),fun h=>(by rcases h with h|h<;>cases h),fun h=>(by cases h),fun h=>(by cases h),fun h=>(by cases h),fun _ h=>K3 _,fun _ h=>?_⟩
  have h:sideAt x.frm=2:=h
  omega
 |came k n hn h3 hr hs=>
  have ho:=X.k12b k hx
  exact⟨⟨E.cs,E.nums,E.pol,E.ownA,E.farA,E.ownB,E.farB,E.done,E.over,⟨E.room.1,uq.trans E.room.2⟩,E.told,E.want,E.baseA,uo E.baseB ho,E.hth⟩,EvoA.refl _,same,K3 _,K3 _,j0⟩
structure Hale (e:EndD):Prop where
 ok:OkE e
 st:e.state=2
 g:GoodE e
theorem C5:(pols.all fun p=>pols.all fun q=>sf (dC 1 p) && sf (dC 2 q) && ah (jj (dC 1 p) (dC 2 q)).1 && ah (jj (dC 1 p) (dC 2 q)).2.1 && decide ((jj (dC 1 p) (dC 2 q)).1.state=2) && decide ((jj (dC 1 p) (dC 2 q)).2.1.state=2) && vQ (jj (dC 1 p) (dC 2 q)).1 && vQ (jj (dC 1 p) (dC 2 q)).2.1)=true:=by decide+kernel
theorem Hale.hear {e:EndD} {x:LetterD} (h:Hale e):Hale (hear e x).1:=⟨(pn h.ok h.st).1,(pn h.ok h.st).2,tV h.g⟩
theorem Hale.writeAll {e:EndD} {t:List UInt8} (h:Hale e):Hale (writeAll e t).1:=by
 have w:=mA (t:=t) h.ok
 have p:=mz (k:=3) w.1
 exact⟨p.1,p.2.trans (w.2.trans h.st),kQ h.g⟩
theorem Hale.tick {e:EndD} (h:Hale e):Hale (tick e).1:=⟨(vL h.ok).1,(vL h.ok).2.trans h.st,t9 h.g⟩
theorem Hale.read {e:EndD} {m:Int} (h:Hale e):Hale (b_ e m).1:=⟨(rV h.ok h.g.p).1,(rV h.ok h.g.p).2.trans h.st,rL h.g⟩
theorem Hale.addOwn {e:EndD} {a:AddrD} (h:Hale e):Hale (addOwn e a).1:=by
 have k:=pp (a:=⟨5,1,0,0,[],a,aj⟩) h.ok h.g.p
 have e5:(dj e ⟨5,1,0,0,[],a,aj⟩).1=(Go.Proofs.YtdiiopjaebnmfaaGreat.addOwn e a).1:=by simp [dj]
 rw [e5] at k
 exact⟨k.1,k.2.trans h.st,oC h.g⟩
theorem Hale.manage {e:EndD} (h:Hale e):Hale (manage e).1:=by
 have k:=pp (a:=⟨4,1,0,0,[],wS,aj⟩) h.ok h.g.p
 have e4:(dj e ⟨4,1,0,0,[],wS,aj⟩).1=(Go.Proofs.YtdiiopjaebnmfaaGreat.manage e).1:=by simp [dj]
 rw [e4] at k
 exact⟨k.1,k.2.trans h.st,oB h.g⟩
structure Drn (e:EndD):Prop where
 s:Small e
 p:SmallP e.inp
 wf:e.wf
theorem Hale.drn {e:EndD} (h:Hale e):Drn e:=⟨h.g.s,h.g.p,h.ok.wf h.g⟩
theorem JQ {n:Int} (h: -2000000000<=n/\n<=2000000000):aY n:=bt zO
theorem Drn.side {e:EndD} (h:Drn e) {n:Int} (hn:aY n):Drn { e with side:=n }:=⟨⟨h.s.own,h.s.far,h.s.subs,h.s.halfs,h.s.list,h.s.done,h.s.over⟩,h.p,⟨hn,h.wf.2⟩⟩
theorem Drn.state {e:EndD} (h:Drn e) {n:Int} (hn:aY n):Drn { e with state:=n }:=⟨⟨h.s.own,h.s.far,h.s.subs,h.s.halfs,h.s.list,h.s.done,h.s.over⟩,h.p,⟨h.wf.1,hn,h.wf.2.2⟩⟩
theorem Drn.sub {e:EndD} (h:Drn e) {l:List SubD} (hl:l.length<=1048576) (hw:∀ s∈l,s.wf):Drn { e with subs:=l }:=by
 obtain⟨a1,a2,a3,a4,a5,a6,a7,a8,a9,a10,a11,a12,a13,a14,a15,a16,a17,a18,b1,b2,b3,b4,b5,b6,b7,c1,c2,c3,c4,c5,c6,c7⟩:=h.wf
 exact⟨⟨h.s.own,h.s.far,hl,h.s.halfs,h.s.list,h.s.done,h.s.over⟩,h.p,a1,a2,a3,a4,a5,a6,a7,a8,a9,a10,a11,a12,a13,a14,a15,a16,a17,a18,b1,b2,hw,b4,b5,b6,b7,c1,c2,Lo hl gn,c4,c5,c6,c7⟩
theorem Drn.draw {e:EndD} (h:Drn e) {n:Int} (hn:aY n):Drn { e with draw:=n }:=by
 obtain⟨a1,a2,a3,a4,a5,a6,a7,a8,a9,a10,a11,a12,a13,a14,a15,a16,r⟩:=h.wf
 exact⟨⟨h.s.own,h.s.far,h.s.subs,h.s.halfs,h.s.list,h.s.done,h.s.over⟩,h.p,a1,a2,a3,a4,a5,a6,a7,a8,a9,a10,a11,a12,a13,a14,a15,hn,r⟩
theorem Drn.now {e:EndD} (h:Drn e) {n:Int} (hn:aY n):Drn { e with now:=n }:=by
 obtain⟨a1,a2,a3,a4,a5,a6,a7,a8,a9,a10,a11,a12,a13,a14,a15,a16,a17,r⟩:=h.wf
 exact⟨⟨h.s.own,h.s.far,h.s.subs,h.s.halfs,h.s.list,h.s.done,h.s.over⟩,h.p,a1,a2,a3,a4,a5,a6,a7,a8,a9,a10,a11,a12,a13,a14,a15,a16,hn,r⟩
theorem Drn.pick {e:EndD} (h:Drn e) {n:Int} (hn:aY n):Drn { e with pick:=n }:=by
 obtain⟨a1,a2,a3,a4,a5,a6,a7,a8,a9,a10,a11,a12,a13,a14,a15,a16,a17,a18,r⟩:=h.wf
 exact⟨⟨h.s.own,h.s.far,h.s.subs,h.s.halfs,h.s.list,h.s.done,h.s.over⟩,h.p,a1,a2,a3,a4,a5,a6,a7,a8,a9,a10,a11,a12,a13,a14,a15,a16,a17,hn,r⟩
theorem Drn.own {e:EndD} (h:Drn e) {l:List AddrD} (hl:l.length<=1048576) (hw:∀ s∈l,s.wf):Drn { e with own:=l }:=by
 obtain⟨a1,a2,a3,a4,a5,a6,a7,a8,a9,a10,a11,a12,a13,a14,a15,a16,a17,a18,b1,b2,b3,b4,b5,b6,b7,c1,c2,c3,c4,c5,c6,c7⟩:=h.wf
 exact⟨⟨hl,h.s.far,h.s.subs,h.s.halfs,h.s.list,h.s.done,h.s.over⟩,h.p,a1,a2,a3,a4,a5,a6,a7,a8,a9,a10,a11,a12,a13,a14,a15,a16,a17,a18,hw,b2,b3,b4,b5,b6,b7,Lo hl gn,c2,c3,c4,c5,c6,c7⟩
theorem Drn.halfs {e:EndD} (h:Drn e) {l:List HalfD} (hl:l.length<=1048576) (hw:∀ s∈l,s.wf):Drn { e with halfs:=l }:=by
 obtain⟨a1,a2,a3,a4,a5,a6,a7,a8,a9,a10,a11,a12,a13,a14,a15,a16,a17,a18,b1,b2,b3,b4,b5,b6,b7,c1,c2,c3,c4,c5,c6,c7⟩:=h.wf
 exact⟨⟨h.s.own,h.s.far,h.s.subs,hl,h.s.list,h.s.done,h.s.over⟩,h.p,a1,a2,a3,a4,a5,a6,a7,a8,a9,a10,a11,a12,a13,a14,a15,a16,a17,a18,b1,b2,b3,hw,b5,b6,b7,c1,c2,c3,Lo hl gn,c5,c6,c7⟩
theorem Drn.done {e:EndD} (h:Drn e) {l:List Int} (hl:l.length<=1048576) (hw:∀ s∈l,aY s):Drn { e with done:=l }:=by
 obtain⟨a1,a2,a3,a4,a5,a6,a7,a8,a9,a10,a11,a12,a13,a14,a15,a16,a17,a18,b1,b2,b3,b4,b5,b6,b7,c1,c2,c3,c4,c5,c6,c7⟩:=h.wf
 exact⟨⟨h.s.own,h.s.far,h.s.subs,h.s.halfs,h.s.list,hl,h.s.over⟩,h.p,a1,a2,a3,a4,a5,a6,a7,a8,a9,a10,a11,a12,a13,a14,a15,a16,a17,a18,b1,b2,b3,b4,b5,hw,b7,c1,c2,c3,c4,c5,Lo hl gn,c7⟩
theorem Drn.over {e:EndD} (h:Drn e) {l:List Int} (hl:l.length<=1048576) (hw:∀ s∈l,aY s):Drn { e with over:=l }:=by
 obtain⟨a1,a2,a3,a4,a5,a6,a7,a8,a9,a10,a11,a12,a13,a14,a15,a16,a17,a18,b1,b2,b3,b4,b5,b6,b7,c1,c2,c3,c4,c5,c6,c7⟩:=h.wf
 exact⟨⟨h.s.own,h.s.far,h.s.subs,h.s.halfs,h.s.list,h.s.done,hl⟩,h.p,a1,a2,a3,a4,a5,a6,a7,a8,a9,a10,a11,a12,a13,a14,a15,a16,a17,a18,b1,b2,b3,b4,b5,b6,hw,c1,c2,c3,c4,c5,c6,Lo hl gn⟩
theorem Drn.out {e:EndD} (h:Drn e) {o:OutD} (hw:o.wf):Drn { e with out:=o }:=by
 obtain⟨a1,a2,a3,a4,a5,a6,a7,a8,a9,a10,a11,a12,a13,r⟩:=h.wf
 obtain⟨w1,w2,w3,w4⟩:=hw
 exact⟨⟨h.s.own,h.s.far,h.s.subs,h.s.halfs,h.s.list,h.s.done,h.s.over⟩,h.p,a1,a2,a3,a4,a5,a6,a7,a8,a9,w1,w2,w3,w4,r⟩
theorem Drn.inp {e:EndD} (h:Drn e) {q:PiecesD} (hs:SmallP q) (hw:q.wf):Drn { e with inp:=q }:=by
 obtain⟨a1,a2,a3,a4,a5,a6,a7,a8,a9,a10,a11,a12,a13,a14,a15,a16,a17,a18,b1,b2,b3,b4,b5,b6,b7,c1,c2,c3,c4,c5,c6,c7⟩:=h.wf
 obtain⟨w1,w2,w3,w4⟩:=hw
 exact⟨⟨h.s.own,h.s.far,h.s.subs,h.s.halfs,hs.list,h.s.done,h.s.over⟩,hs,a1,a2,a3,a4,a5,a6,a7,a8,a9,a10,a11,a12,a13,w1,w2,a16,a17,a18,b1,b2,b3,b4,w3,b6,b7,c1,c2,c3,c4,w4,c6,c7⟩
theorem Fh {p:PiecesD} (F:FineP p):p.wf:=by
 have m:=gn
 have h1:=F.r0;have h2:=F.r1;have h3:=F.ready;have h4:=F.list
 refine⟨JQ zO,zO,fun y hy=>?_,zO⟩
 obtain⟨q1,q2,q3⟩:=F.texts y hy
 exact⟨JQ zO,zO⟩
theorem x_ {p:PiecesD} {n:Int} {t:List UInt8} (hs:SmallP p) (hw:p.wf):(putPiece p n t).wf:=by
 rcases fU p n t with e|e
 ·rw [e];exact hw
 exact Fh (bh e (eZ hs))
theorem Fi {o:OutD} (F:FineO o):o.wf:=by
 have m:=gn
 have h1:=F.base;have h2:=F.room;have h3:=F.len;have h4:=F.sent
 exact⟨zO,JQ zO,JQ zO,JQ zO⟩
theorem vS (l:List AddrD) (a:AddrD):(aA l a).1.length<=l.length+1:=by
 rw [aA];split
 ·rw [bF];split
  ·simp
  simp
  omega
 simp
theorem vT (l:List HalfD) (a:HalfD):(aF l a).1.length<=l.length+1:=by
 rw [aF];split
 ·rw [a_];split<;>simp
 simp
theorem Aq {l:List AddrD} {a b:AddrD} (h:b∈(aA l a).1):b=a\/b∈l:=dO h
theorem Ar {l:List HalfD} {a b:HalfD} (h:b∈(aF l a).1):b=a\/b∈l:=ss h
def Ik (o:OutD):Prop:=o.wf/\o.text.length<=1048576
theorem pu {o:OutD} (h:outOk o=true):Ik o:=⟨Fi (bQ h),by have F:=bQ h;have:=F.len;have:=F.room;omega⟩
def JR (r:RoadD) (x:LetterD):Prop:=x.frm=r.own/\x.to=r.far/\x.port=r.port
theorem Fm {l:List SubD} {n:Nat} (h:n∈eG l):n∈lA l:=by
 rw [eG] at h;split at h
 ·exact h
 exact (Lr.1 h).1
theorem Ay {e:EndD} (h:0<=bE e):∃ s∈e.subs,s.state=3/\aZ e.subs (bE e).toNat=s:=by
 rw [bE] at h⊢;split at h
 ·rename_i hc
  have hz:e.pick.toNat % (eG e.subs).length < (eG e.subs).length:=Nat.mod_lt _ zO
  rw [if_pos hc,K4,LF,LH hz,Option.getD_some]
  obtain⟨hn,h3⟩:=lX (Fm (K0 hz))
  exact⟨_,K0 hn,h3,br hn⟩
 omega
def PA (w:WorldD) (x:LetterD):Prop:=Slice w.wroteA x.pos x.text/\∃ s∈w.a.subs,¬ s.state=1/\JR s.road x/\x.sgn=s.give/\∃ t∈w.b.subs,t.take=x.sgn/\t.give=s.take
def PB (w:WorldD) (x:LetterD):Prop:=Slice w.wroteB x.pos x.text/\∃ t∈w.b.subs,JR t.road x/\x.sgn=t.give
def PD (w:WorldD) (x:LetterD):Prop:=x.kind=11->PA w x\/PB w x
def CovI (s:Int) (l:List LetterD) (R:List UInt8) (p:PiecesD):Prop:=l.length < 150->∀ W,(∀ x∈l,x.kind=11->sideAt x.to=s->Slice W x.pos x.text)->InI W R p
structure Car (w:WorldD):Prop where
 sbd:w.b.subs.Pairwise fun s t=>¬ s.take=t.take
 ga:∀ s∈w.a.subs,GA w.b.subs s
 lb:∀ x∈w.bag,LC w x
 lp:∀ x∈w.past,LC w x
 bd:∀ x∈w.bag,x.kind=11->Loose w.nums x.sgn\/150<=w.past.length\/x∈w.past
 pd:∀ x∈w.past,PD w x
 ca:CovI 1 w.past w.readA w.a.inp
 cb:CovI 2 w.past w.readB w.b.inp
theorem LC.mono {w w':WorldD} {x:LetterD} (C:Core w) (L:LetI w x) (K:LC w x) (E:Le w w') (N:NewB w w'.b.subs):LC w' x:=by
 intro h1 h2 m h3
 rw [E.ka,E.kb] at h3
 rcases L.a5 h1 h2 m h3 with g|⟨g1,g2⟩
 ·exact .inl (g.mono E.nums)
 rcases K h1 h2 m h3 with g|⟨k1,k2⟩
 ·exact .inl (g.mono E.nums)
 refine .inr ⟨k1,fun t ht e=>?_⟩
 rcases N.nb t ht with⟨u,u1,u2,u3⟩|⟨q,q1,q2,q3,r,r1,r2,r3,r4⟩
 ·rw [u3];exact k2 u u1 (by rw [<-u2];exact e)
 have m4:=(C.hb q q1).m4
 obtain⟨p1,_,_⟩:=g2 q q1 zO
 have m2:=(C.sa r r1).mine
 omega
theorem PD.mono {w w':WorldD} {x:LetterD} (K:PD w x) (E:Le w w') (N:NewB w w'.b.subs):PD w' x:=by
 intro hk
 rcases K hk with⟨q0,s,s1,s2,s3,s4,t,t1,t2,t3⟩|⟨q0,t,t1,t2,t3⟩
 ·obtain⟨s',r1,r2⟩:=E.sa s s1
  obtain⟨p1,p2,p3⟩:=r2.rest s2
  obtain⟨u,u1,_,u2,u3⟩:=N.ev t t1
  obtain⟨v,hv⟩:=E.wa
  exact .inl ⟨by rw [hv];exact q0.app v,s',r1,p1,by rw [r2.road];exact s3,by rw [p3];exact s4,u,u1,u2.trans t2,by rw [u3,r2.take];exact t3⟩
 obtain⟨u,u1,u0,u2,u3⟩:=N.ev t t1
 obtain⟨v,hv⟩:=E.wb
 exact .inr ⟨by rw [hv];exact q0.app v,u,u1,by rw [u0];exact t2,by rw [u3];exact t3⟩
theorem Car.put {w w':WorldD} (I:Inv w) (K:Car w) (E:Le w w') (N:NewB w w'.b.subs) (hb:w'.bag=w.bag) (hp:w'.past=w.past) (ga:∀ s∈w'.a.subs,GA w'.b.subs s) (ca:CovI 1 w.past w'.readA w'.a.inp) (cb:CovI 2 w.past w'.readB w'.b.inp):Car w':=by
 refine⟨N.pw K.sbd,ga,?_,?_,?_,?_,by rw [hp];exact ca,by rw [hp];exact cb⟩
 ·rw [hb];exact fun x hx=>(K.lb x hx).mono I.c (I.bag x hx) E N
 ·rw [hp];exact fun x hx=>(K.lp x hx).mono I.c (I.past x hx) E N
 ·rw [hb,hp];exact fun x hx k=>(K.bd x hx k).imp (fun g=>g.mono E.nums) id
 rw [hp];exact fun x hx=>(K.pd x hx).mono E N
theorem CovI.more {s:Int} {l:List LetterD} {x:LetterD} {R:List UInt8} {p:PiecesD} (h:CovI s l R p):CovI s (fV l x) R p:=by
 intro hl W hW
 rw [fV] at hl hW
 split at hl
 ·rename_i h1
  rw [if_pos h1] at hW
  exact h h1 W fun y hy=>hW y (K_ _ hy)
 rename_i h1
 omega
theorem Db {w:WorldD} {side:Int} {x:LetterD} (I:Inv w) (K:Car w) (P:Post w x) (hl:LC w x) (hd:PD w x):Car (bl side w x):=by
 obtain⟨I',E,ea,eb⟩:=nJ (side:=side) I P
 obtain⟨_,_,_,_,er,es⟩:=fy (side:=side) (w:=w) (x:=x)
 have N:NewB w (bl side w x).b.subs:=by rw [eb];exact .keep (SubsKeep.refl _)
 have hp:(bl side w x).past=fV w.past x:=by unfold bl;split<;>rfl
 have hb:∀ y∈(bl side w x).bag,y=x\/y∈w.bag:=by
  intro y hy
  unfold bl at hy;split at hy
  ·exact .inr hy
  dsimp only at hy
  rw [vu] at hy;split at hy
  ·rcases K2.1 hy with hy|hy
   ·exact .inr hy
   exact .inl (K1.1 hy)
  exact .inr hy
 have hq:∀ y∈fV w.past x,y=x\/y∈w.past:=by
  intro y hy
  rw [fV] at hy;split at hy
  ·rcases K2.1 hy with hy|hy
   ·exact .inr hy
   exact .inl (K1.1 hy)
  exact .inr hy
 have hin:x∈fV w.past x\/150<=(fV w.past x).length:=by
  rw [fV];split
  ·exact .inl zP
  exact .inr zO
 have hold:∀ y∈w.past,y∈fV w.past x:=fun y hy=>by
  rw [fV];split
  ·exact K_ _ hy
  exact hy
 have hlen:w.past.length<=(fV w.past x).length:=by
  rw [fV];split
  ·simp
  exact Ma _
 refine⟨by rw [eb];exact K.sbd,by rw [ea,eb];exact K.ga,fun y hy=>?_,fun y hy=>?_,fun y hy k=>?_,fun y hy=>?_,by rw [hp,er,ea];exact K.ca.more,by rw [hp,es,eb];exact K.cb.more⟩
 ·rcases hb y hy with rfl|hy
  ·exact hl.mono I.c P.let E N
  exact (K.lb y hy).mono I.c (I.bag y hy) E N
 ·rw [hp] at hy
  rcases hq y hy with rfl|hy
  ·exact hl.mono I.c P.let E N
  exact (K.lp y hy).mono I.c (I.past y hy) E N
 ·rw [hp]
  rcases hb y hy with rfl|hy
  ·exact .inr hin.symm
  rcases K.bd y hy k with g|g|g
  ·exact .inl (g.mono E.nums)
  ·exact .inr (.inl zO)
  exact .inr (.inr (hold y g))
 rw [hp] at hy
 rcases hq y hy with rfl|hy
 ·exact hd.mono E N
 exact (K.pd y hy).mono E N
theorem uw {side:Int}:∀ {l:List LetterD} {w:WorldD},Inv w->Car w->(∀ x∈l,Post w x)->(∀ x∈l,LC w x/\PD w x)->Car (bY side w l)
 |[],w,I,K,_,_=>K
 |x::l,w,I,K,P,Q=>by
  obtain⟨I',E,ea,eb⟩:=nJ (side:=side) I (P x zP)
  have N:NewB w (bl side w x).b.subs:=by rw [eb];exact .keep (SubsKeep.refl _)
  exact uw (l:=l) I' (Db I K (P x zP) (Q x zP).1 (Q x zP).2) (fun y hy=>(P y (by simp [hy])).mono E ea eb) fun y hy=>
   ⟨(Q y (by simp [hy])).1.mono I.c (P y (by simp [hy])).let E N,(Q y (by simp [hy])).2.mono E N⟩
theorem Car.step {w w':WorldD} {l:List LetterD} {side:Int} (I:Inv w) (S:Step w w' l) (hb:w'.bag=w.bag) (hp:w'.past=w.past) (K':Car w') (Q:∀ x∈l,LC w' x/\PD w' x):Car (bY side w' l):=
 uw ⟨S.c,fun x hx=>(I.bag x (hb▸hx)).mono S.le,fun x hx=>(I.past x (hp▸hx)).mono S.le⟩ K' S.post Q
theorem Car.bag {w:WorldD} {l:List LetterD} (K:Car w) (h:∀ x∈l,LC w x) (g:∀ x∈l,x.kind=11->Loose w.nums x.sgn\/150<=w.past.length\/x∈w.past):Car { w with bag:=l }:=⟨K.sbd,K.ga,h,K.lp,g,K.pd,K.ca,K.cb⟩
theorem GQ {e:EndD}:∀ y∈(ck e).2,y.kind=11/\∃ s∈e.subs,y.to=s.road.far:=by
 unfold ck;split
 ·rename_i hk
  simp only [iW,KZ,decide_eq_true_eq] at hk
  obtain⟨s,s1,s2,s3⟩:=Ay hk.2
  rw [s3]
  exact Ij ⟨rfl,s,s1,rfl⟩
 intro y hy;simp at hy
theorem yl:∀ {k:Nat} {e:EndD},∀ y∈(bC k e).2,y.kind=11/\∃ s∈e.subs,y.to=s.road.far
 |0,e=>fun y hy=>by simp [bC] at hy
 |k+1,e=>fun y hy=>by
  rcases K2.1 hy with hy|hy
  ·exact GQ y hy
  have:=yl y hy
  rw [ua] at this
  exact this
structure SameE (e e':EndD):Prop where
 subs:e'.subs=e.subs
 own:e'.own=e.own
 far:e'.far=e.far
 pol:e'.policy=e.policy
 done:e'.done=e.done
 over:e'.over=e.over
 halfs:e'.halfs=e.halfs
 inp:e'.inp=e.inp
 base:e'.out.base=e.out.base
 room:e'.out.room=e.out.room
theorem SameE.refl (e:EndD):SameE e e:=⟨rfl,rfl,rfl,rfl,rfl,rfl,rfl,rfl,rfl,rfl⟩
theorem SameE.trans {a b c:EndD} (h:SameE a b) (g:SameE b c):SameE a c:=
 ⟨g.subs.trans h.subs,g.own.trans h.own,g.far.trans h.far,g.pol.trans h.pol,g.done.trans h.done,g.over.trans h.over,g.halfs.trans h.halfs,g.inp.trans h.inp,g.base.trans h.base,g.room.trans h.room⟩
theorem sx (o:OutD):(dA o).base=o.base/\(dA o).room=o.room:=by unfold dA;split<;>exact⟨rfl,rfl⟩
theorem pv (o:OutD):(dN o).base=o.base/\(dN o).room=o.room:=by unfold dN;split<;>exact⟨rfl,rfl⟩
theorem ux (o:OutD) (t:List UInt8):(bZ o t).1.base=o.base/\(bZ o t).1.room=o.room:=by unfold bZ;split<;>exact⟨rfl,rfl⟩
theorem Dc {e:EndD}:SameE e (ck e).1:=by
 unfold ck;split
 ·exact⟨rfl,rfl,rfl,rfl,rfl,rfl,rfl,rfl,(sx _).1,(sx _).2⟩
 exact SameE.refl e
theorem gN:∀ {k:Nat} {e:EndD},SameE e (bC k e).1
 |0,e=>SameE.refl e
 |k+1,e=>Dc.trans gN
theorem gO {e:EndD} {t:List UInt8}:SameE e (cf e t).1:=by
 unfold cf;split
 ·exact⟨rfl,rfl,rfl,rfl,rfl,rfl,rfl,rfl,(ux _ _).1,(ux _ _).2⟩
 exact SameE.refl e
theorem CE.endA {p:PolicyD} {w w':WorldD} (E:CE p w) (S:SameE w.a w'.a) (hb:w'.b=w.b) (hn:w'.nums=w.nums):CE p w':=by
 refine⟨?_,?_,?_,?_,?_,?_,?_,?_,?_,?_,?_,?_,?_,?_,?_⟩
 ·rw [S.subs,hb];exact E.cs
 ·rw [hn];exact E.nums
 ·rw [S.pol];exact E.pol
 ·rw [S.own];exact E.ownA
 ·rw [S.far];exact E.farA
 ·rw [hb];exact E.ownB
 ·rw [hb];exact E.farB
 ·rw [hb,S.done];exact E.done
 ·rw [hb,S.over];exact E.over
 ·rw [hb,S.room];exact E.room
 ·rw [hb,S.far];exact E.told
 ·rw [S.subs,S.own,S.far];exact E.want
 ·rw [S.base,hb];exact E.baseA
 ·rw [hb,S.inp];exact E.baseB
 rw [hb];exact E.hth
theorem CE.endB {p:PolicyD} {w w':WorldD} (E:CE p w) (S:SameE w.b w'.b) (ha:w'.a=w.a) (hn:w'.nums=w.nums):CE p w':=by
 refine⟨?_,?_,?_,?_,?_,?_,?_,?_,?_,?_,?_,?_,?_,?_,?_⟩
 ·rw [S.subs,S.halfs,ha];exact E.cs
 ·rw [hn];exact E.nums
 ·rw [ha];exact E.pol
 ·rw [ha];exact E.ownA
 ·rw [ha];exact E.farA
 ·rw [S.own];exact E.ownB
 ·rw [S.far];exact E.farB
 ·rw [ha,S.done];exact E.done
 ·rw [ha,S.over];exact E.over
 ·rw [ha,S.room];exact E.room
 ·rw [ha,S.own];exact E.told
 ·rw [ha];exact E.want
 ·rw [ha,S.inp];exact E.baseA
 ·rw [ha,S.base];exact E.baseB
 rw [S.halfs];exact E.hth
theorem CE.same {p:PolicyD} {w w':WorldD} (E:CE p w) (ha:w'.a=w.a) (hb:w'.b=w.b) (hn:w'.nums=w.nums):CE p w':=E.endA (by rw [ha];exact SameE.refl _) hb hn
theorem CL.same {w w':WorldD} {x:LetterD} (L:CL w x) (ha:w'.a=w.a) (hb:w'.b=w.b):CL w' x:=by
 cases w;cases w'
 dsimp only at ha hb
 subst ha;subst hb
 exact⟨L.kind,L.to,L.to2,L.to1,L.k4,L.k5,L.k9,L.k12a,L.k12b⟩
theorem KR {w:WorldD} {y:LetterD} (k:y.kind=4) (h2:sideAt y.to=2) (hn:1000<=y.nonce):CL w y:=
 ⟨zO,zO,fun _=>h2,fun h=>by omega,fun _=>hn,fun h=>by omega,fun h=>by omega,fun h=>by omega,fun h=>by omega⟩
def FH (y:LetterD):Prop:=(y.kind=6\/y.kind=8\/y.kind=11\/y.kind=4/\1000<=y.nonce)/\¬ sideAt y.to=0/\(y.kind=4\/y.kind=6->sideAt y.to=2)
theorem FH.cl {w:WorldD} {y:LetterD} (h:FH y):CL w y:=by
 obtain⟨h1,h2,h3⟩:=h
 exact⟨zO,h2,h3,fun h=>by omega,fun h=>by omega,fun h=>by omega,fun h=>by omega,fun h=>by omega,fun h=>by omega⟩
theorem mJ {e:EndD} {k:Nat} (h:∀ s∈e.subs,¬ sideAt s.road.far=0):∀ y∈(bC k e).2,FH y:=by
 intro y hy
 obtain⟨h1,s,s1,s2⟩:=yl y hy
 exact⟨.inr (.inr (.inl h1)),by rw [s2];exact h s s1,fun h=>by omega⟩
theorem ym {e:EndD} (h:∀ s∈e.subs,¬ sideAt s.road.far=0):∀ y∈bx e,FH y:=by
 unfold bx;split
 ·rename_i hk
  simp only [zG,KZ,Lh,decide_eq_false_iff_not] at hk
  intro y hy
  obtain⟨q,_,rfl⟩:=Ll.1 hy
  exact⟨.inr (.inl rfl),h _ (r_ (nL hk.2)),fun h=>by rcases h with h|h<;>cases h⟩
 intro y hy;simp at hy
theorem Fn {w:WorldD} (C:Core w) {s:SubD} (hs:s∈w.a.subs):∀ y∈cP w.a s,FH y:=by
 intro y hy
 have S:=C.sa s hs
 have h2:sideAt s.road.far=2:=S.far
 rw [cP] at hy
 repeat' split at hy
 all_goals first
  |(simp at hy;done)
  |(rename_i h1;rw [K1.1 hy];exact⟨.inr (.inr (.inr ⟨rfl,S.ask (.inl h1)⟩)),by show ¬ sideAt s.road.far=0;omega,fun _=>h2⟩)
  |(rw [K1.1 hy];exact⟨.inl rfl,by show ¬ sideAt s.road.far=0;omega,fun _=>h2⟩)
theorem FH.all {p:PolicyD} {w:WorldD} {l:List LetterD} (h:∀ y∈l,FH y):∀ y∈l,CL w y:=fun y hy=>(h y hy).cl
theorem Hs {w:WorldD} (C:Core w):∀ s∈w.a.subs,¬ sideAt s.road.far=0:=fun s hs=>by have:=(C.sa s hs).far;omega
theorem Ht {w:WorldD} (C:Core w):∀ s∈w.b.subs,¬ sideAt s.road.far=0:=fun s hs=>by have:=(farB C hs).1;omega
theorem Dd {p:PiecesD} {m:Int} (hs:SmallP p) (ok:piecesOk p=true):nextOf (aK p m).1=nextOf p:=by
 have ok':=Bv (m:=m) ok hs
 rw [(bh ok hs).next,(bh ok' (rK hs)).next]
 unfold aK;split
 ·have h2:sS p m<=p.ready.length:=by unfold sS;exact L8 _ _
  simp only [Lc]
  omega
 rfl
theorem uy {e:EndD} {m:Int} (hs:SmallP e.inp) (ok:OkE e):nextOf (b_ e m).1.inp=nextOf e.inp:=by
 unfold b_;split
 ·exact Dd hs ok.inp
 rfl
theorem fe (l:List AddrD):∀ f∈l,∃ f'∈l,f'.id=f.id:=fun f hf=>⟨f,hf,rfl⟩
theorem CStep.endA {p:PolicyD} {w w':WorldD} {l:List LetterD} (E:CE p w) (S:SameE w.a w'.a) (hb:w'.b=w.b) (hn:w'.nums=w.nums) (hl:∀ y∈l,FH y):CStep p w w' l:=
 ⟨E.endA S hb hn,by rw [S.subs];exact EvoA.refl _,by rw [S.far];exact fe _,by rw [S.inp];exact K3 _,by rw [hb];exact K3 _,fun y hy=>(hl y hy).cl⟩
theorem CStep.endB {p:PolicyD} {w w':WorldD} {l:List LetterD} (E:CE p w) (S:SameE w.b w'.b) (ha:w'.a=w.a) (hn:w'.nums=w.nums) (hl:∀ y∈l,FH y):CStep p w w' l:=
 ⟨E.endB S ha hn,by rw [ha];exact EvoA.refl _,by rw [ha];exact fe _,by rw [ha];exact K3 _,by rw [S.inp];exact K3 _,fun y hy=>(hl y hy).cl⟩
theorem j6:∀ y∈([]:List LetterD),FH y:=fun y hy=>by simp at hy
theorem De {p:PolicyD} {w:WorldD} (C:Core w) (E:CE p w) {r:RoadD} {b:Bool} (hr:r∈wants p (hasTwo w.a.own) (hasTwo w.a.far)):CStep p w (ff w (cA w.a r b).1) (cA w.a r b).2:=by
 unfold cA;split
 case isFalse=>exact CStep.endA E (SameE.refl _) rfl rfl j6
 rename_i hk
 simp only [sT,KZ,decide_eq_true_eq,cm] at hk
 obtain⟨⟨⟨⟨⟨⟨⟨_,_⟩,_⟩,k4⟩,_⟩,k6⟩,k7⟩,k8⟩:=hk
 have hg:∀ t∈w.b.subs,¬ t.give=w.a.draw+2:=fun t ht hc=>by
  obtain⟨s,s1,_,_,s4,_⟩:=(C.sb t ht).like
  have:=(C.sa s s1).t4
  omega
 have K:=E.cs.ask (n:=bz w.a r b) rfl (nI.1 k4) hg
 refine⟨⟨K,E.nums,E.pol,E.ownA,E.farA,E.ownB,E.farB,E.done,E.over,E.room,E.told,fun s hs=>?_,E.baseA,E.baseB,E.hth⟩,EvoA.app _ _,fe _,K3 _,K3 _,ig ?_⟩
 ·rcases K2.1 hs with hs|hs
  ·exact E.want s hs
  rw [K1.1 hs];exact hr
 have d:=C.da
 simp only [eC,LD,beq_iff_eq] at k6
 obtain⟨f,f1,f2⟩:=k6
 have:=(C.fa f f1).1
 rw [f2] at this
 exact KR rfl this (by show 1000<=w.a.draw;omega)
theorem CStep.trans {p:PolicyD} {u v w:WorldD} {l m:List LetterD} (P:u.a.subs.Pairwise Later) (h:CStep p u v l) (L:Le v w) (g:CStep p v w m):CStep p u w (l++m):=by
 refine⟨g.e,h.ea.trans g.ea,fun f hf=>?_,Lt h.na g.na,Lt h.nb g.nb,fun y hy=>?_⟩
 ·obtain⟨f1,a1,a2⟩:=h.fa f hf
  obtain⟨f2,b1,b2⟩:=g.fa f1 a1
  exact⟨f2,b1,b2.trans a2⟩
 rcases K2.1 hy with hy|hy
 ·exact (h.ls y hy).mono h.e.cs.pw L g.ea g.fa g.na g.nb
 exact g.ls y hy
theorem GR (e:EndD) (r:RoadD) (b:Bool):(cA e r b).1.own=e.own/\(cA e r b).1.far=e.far:=by unfold cA;split<;>exact⟨rfl,rfl⟩
theorem yn {p:PolicyD} {far:List AddrD}:∀ {l:List RoadD} {w:WorldD},Core w->CE p w->(∀ r∈l,r∈wants p (hasTwo w.a.own) (hasTwo w.a.far))->CStep p w (ff w (ci far w.a l).1) (ci far w.a l).2
 |[],w,C,E,_=>CStep.endA E (SameE.refl _) rfl rfl j6
 |r::l,w,C,E,h=>by
  have j:=De (b:=aD far r.far) C E (h r (Lg ..))
  have C1:=(Hn C r (aD far r.far)).c
  have o:=GR w.a r (aD far r.far)
  have hr:∀ q∈l,q∈wants p (hasTwo (ff w (cA w.a r (aD far r.far)).1).a.own) (hasTwo (ff w (cA w.a r (aD far r.far)).1).a.far):=fun q hq=>by
   show q∈wants p (hasTwo (cA w.a r (aD far r.far)).1.own) (hasTwo (cA w.a r (aD far r.far)).1.far)
   rw [o.1,o.2]
   exact h q (K9 _ hq)
  have g:=yn (far:=far) C1 j.e hr
  exact CStep.trans E.cs.pw j (Ah (far:=far) (l:=l) C1).le g
theorem Df {p:PolicyD} {w:WorldD} {a:ActD} (hp:p∈pols) (C:Core w) (G:SmallP w.a.inp) (E:CE p w) (A:CalmA a) (hs:a.side=1) (hk:a.kind<=7):CStep p w (aV (fA w a) 1 (dj w.a a).1) (dj w.a a).2:=by
 have kk:=A.k
 unfold dj fA
 split
 ·rename_i k
  exact CStep.endA E (gO.trans gN) (by unfold kP;split<;>rfl) (by unfold kP;split<;>rfl) (mJ (by rw [gO.subs];exact Hs C))
 split
 ·rename_i k
  have nx:=uy (m:=a.many) G C.oka
  have hr:fL w a.side (b_ (dc w a.side) a.many).2={ w with readA:=w.readA++(b_ (dc w a.side) a.many).2 }:=by rw [fL,if_pos hs]
  rw [hr]
  have q:(b_ w.a a.many).1={ w.a with inp:=(b_ w.a a.many).1.inp }:=by unfold b_;split<;>rfl
  rw [q]
  refine⟨⟨E.cs,E.nums,E.pol,E.ownA,E.farA,E.ownB,E.farB,E.done,E.over,E.room,E.told,E.want,E.baseA,?_,E.hth⟩,EvoA.refl _,fe _,?_,K3 _,j0⟩
  ·exact Lt E.baseB (L_ nx.symm)
  exact L_ nx.symm
 split
 ·rename_i k1 k2 k
  have C':=(Hm C).c
  have hw:aV w 1 (tick w.a).1=ff w (tick w.a).1:=rfl
  rw [hw]
  unfold tick at C'⊢
  split at C'
  case isFalse hc=>rw [if_neg hc];exact CStep.endA E (SameE.refl _) rfl rfl j6
  rename_i hc
  rw [if_pos hc]
  rw [if_pos C.sta] at C'⊢
  unfold bm at C'⊢
  dsimp only at C'⊢
  have sides:∀ s∈w.a.subs.map aL,¬ sideAt s.road.far=0:=fun s hs=>by
   obtain⟨q,q1,rfl⟩:=Ll.1 hs
   rw [(cO q).road]
   exact Hs C q q1
  have E1:CE p (ff w { bU w.a with subs:=w.a.subs.map aL }):=by
   refine⟨E.cs.tick,E.nums,E.pol,E.ownA,E.farA,E.ownB,E.farB,E.done,E.over,⟨(pv _).2.trans E.room.1,E.room.2⟩,E.told,fun s hs=>?_,?_,E.baseB,E.hth⟩
   ·obtain⟨q,q1,rfl⟩:=Ll.1 hs
    rw [(cO q).road]
    exact E.want q q1
   show (dN w.a.out).base<=nextOf w.b.inp
   rw [(pv _).1];exact E.baseA
  have sm:=gN (k:=3) (e:={ bU w.a with subs:=w.a.subs.map aL })
  refine⟨E1.endA sm rfl rfl,?_,?_,?_,K3 _,fun y hy=>?_⟩
  ·show EvoA w.a.subs (bC 3 { bU w.a with subs:=w.a.subs.map aL }).1.subs
   rw [sm.subs];exact EvoA.tick _
  ·show ∀ f∈w.a.far,∃ f'∈(bC 3 { bU w.a with subs:=w.a.subs.map aL }).1.far,f'.id=f.id
   rw [sm.far];exact fe _
  ·show nextOf w.a.inp<=nextOf (bC 3 { bU w.a with subs:=w.a.subs.map aL }).1.inp
   rw [sm.inp];exact K3 _
  rcases K2.1 hy with hy|hy
  ·rcases K2.1 hy with hy|hy
   ·obtain⟨s,s1,s2⟩:=LQ.1 hy
    exact (Fn C s1 y s2).cl
   exact (ym sides y hy).cl
  exact (mJ sides y hy).cl
 split
 ·rename_i k1 k2 k3 k
  have hw:aV w 1 (manage w.a).1=ff w (manage w.a).1:=rfl
  rw [hw]
  unfold manage;split
  ·refine yn C E fun r hr=>?_
   rw [dy] at hr;split at hr
   ·have:=(Lr.1 hr).1
    rw [um E.ownA C.oka.own E.farA C.oka.far,E.pol] at this
    exact this
   simp at hr
  exact CStep.endA E (SameE.refl _) rfl rfl j6
 split
 ·rename_i k1 k2 k3 k4 k
  obtain⟨a1,a2⟩:=A.ad k
  have hw:aV w 1 (addOwn w.a a.addr).1=ff w (addOwn w.a a.addr).1:=rfl
  rw [hw]
  unfold addOwn;split
  ·obtain⟨p1,p2,p3⟩:=E.ownA.put (a:={ a.addr with told:=false }) (.inr ⟨a1,by show a.addr.addr=10+2;omega⟩)
   exact⟨⟨E.cs,E.nums,E.pol,p1,E.farA,E.ownB,E.farB,E.done,E.over,E.room,E.told,fun s hs=>sn hp (jZ p3) id (E.want s hs),E.baseA,E.baseB,E.hth⟩,EvoA.refl _,fe _,K3 _,K3 _,j0⟩
  exact CStep.endA E (SameE.refl _) rfl rfl j6
 omega
theorem Io {l:List SubD} (h:∀ t∈l,t.state=3\/t.state=4):l.map aL=l:=by
 conv=>rhs;rw [<-List.map_id l]
 refine List.map_congr_left fun t ht=>?_
 rcases h t ht with h|h
 ·exact BC h
 exact pq h
theorem GS {e:EndD} {l:List SubD} (h:∀ t∈l,t.state=3\/t.state=4):l.flatMap (cP e)=[]:=by
 rw [List.flatMap_eq_nil_iff]
 intro t ht
 rw [cP,if_neg (by rcases h t ht with h|h<;>omega)]
theorem Dg {p:PolicyD} {w:WorldD} {a:ActD} (hp:p∈pols) (C:Core w) (G:SmallP w.b.inp) (E:CE p w) (A:CalmA a) (hs:a.side=2) (hk:a.kind<=7):CStep p w (aV (fA w a) 2 (dj w.b a).1) (dj w.b a).2:=by
 have kk:=A.k
 have h12:¬ a.side=1:=zO
 unfold dj fA
 split
 ·rename_i k
  exact CStep.endB E (gO.trans gN) (by unfold kP;split<;>rfl) (by unfold kP;split<;>rfl) (mJ (by rw [gO.subs];exact Ht C))
 split
 ·rename_i k
  have nx:=uy (m:=a.many) G C.okb
  have hr:fL w a.side (b_ (dc w a.side) a.many).2={ w with readB:=w.readB++(b_ (dc w a.side) a.many).2 }:=by rw [fL,if_neg h12]
  rw [hr]
  have q:(b_ w.b a.many).1={ w.b with inp:=(b_ w.b a.many).1.inp }:=by unfold b_;split<;>rfl
  rw [q]
  refine⟨⟨E.cs,E.nums,E.pol,E.ownA,E.farA,E.ownB,E.farB,E.done,E.over,E.room,E.told,E.want,?_,E.baseB,E.hth⟩,EvoA.refl _,fe _,K3 _,?_,j0⟩
  ·exact Lt E.baseA (L_ nx.symm)
  exact L_ nx.symm
 split
 ·rename_i k1 k2 k
  have hw:aV w 2 (tick w.b).1=inB w (tick w.b).1:=rfl
  rw [hw]
  have st:∀ t∈w.b.subs,t.state=3\/t.state=4:=fun t ht=>(C.sb t ht).st
  unfold tick
  split
  case isFalse hc=>exact CStep.endB E (SameE.refl _) rfl rfl j6
  rw [if_pos C.stb,Io st,GS st]
  unfold bm
  dsimp only
  have sides:∀ s∈w.b.subs,¬ sideAt s.road.far=0:=Ht C
  have E1:CE p (inB w { bU w.b with subs:=w.b.subs }):=by
   refine⟨E.cs.sub fun k hk=>(Lr.1 hk).1,E.nums,E.pol,E.ownA,E.farA,E.ownB,E.farB,E.done,E.over,⟨E.room.1,(pv _).2.trans E.room.2⟩,E.told,E.want,E.baseA,?_,fun q hq=>E.hth q (Lr.1 hq).1⟩
   show (dN w.b.out).base<=nextOf w.a.inp
   rw [(pv _).1];exact E.baseB
  have sm:=gN (k:=3) (e:={ bU w.b with subs:=w.b.subs })
  refine⟨E1.endB sm rfl rfl,EvoA.refl _,fe _,K3 _,?_,fun y hy=>?_⟩
  ·show nextOf w.b.inp<=nextOf (bC 3 { bU w.b with subs:=w.b.subs }).1.inp
   rw [sm.inp];exact K3 _
  rcases K2.1 hy with hy|hy
  ·rcases K2.1 hy with hy|hy
   ·simp at hy
   exact (ym (e:={ bU w.b with subs:=w.b.subs }) sides y hy).cl
  exact (mJ (e:={ bU w.b with subs:=w.b.subs }) sides y hy).cl
 split
 ·rename_i k1 k2 k3 k
  have hw:aV w 2 (manage w.b).1=inB w (manage w.b).1:=rfl
  rw [hw,manage,if_neg (by have:=C.sib;omega)]
  exact CStep.endB E (SameE.refl _) rfl rfl j6
 split
 ·rename_i k1 k2 k3 k4 k
  obtain⟨a1,a2⟩:=A.ad k
  have hw:aV w 2 (addOwn w.b a.addr).1=inB w (addOwn w.b a.addr).1:=rfl
  rw [hw]
  unfold addOwn;split
  ·obtain⟨p1,p2,p3⟩:=E.ownB.put (a:={ a.addr with told:=false }) (.inr ⟨a1,by show a.addr.addr=20+2;omega⟩)
   refine⟨⟨E.cs,E.nums,E.pol,E.ownA,E.farA,p1,E.farB,E.done,E.over,E.room,fun q hq g1 g2=>?_,E.want,E.baseA,E.baseB,E.hth⟩,EvoA.refl _,fe _,K3 _,K3 _,j0⟩
   rcases dO hq with rfl|hq
   ·cases g2
   exact E.told q hq g1 g2
  exact CStep.endB E (SameE.refl _) rfl rfl j6
 omega
structure CW (p:PolicyD) (w:WorldD):Prop where
 e:CE p w
 l:∀ x∈w.bag,CL w x
theorem Fo {p:PolicyD} {side:Int} {w:WorldD} {y:LetterD} (W:CW p w) (Y:CL w y):CW p (bl side w y)/\(bl side w y).a=w.a/\(bl side w y).b=w.b:=by
 rw [bl,if_neg Y.to]
 refine⟨⟨W.e.same rfl rfl rfl,fun x hx=>?_⟩,rfl,rfl⟩
 have hx:x∈vu w.bag y:=hx
 rw [vu] at hx;split at hx
 ·rcases K2.1 hx with hx|hx
  ·exact (W.l x hx).same rfl rfl
  rw [K1.1 hx];exact Y.same rfl rfl
 exact (W.l x hx).same rfl rfl
theorem yo {p:PolicyD} {side:Int}:∀ {l:List LetterD} {w:WorldD},CW p w->(∀ y∈l,CL w y)->CW p (bY side w l)
 |[],w,W,_=>W
 |y::l,w,W,h=>by
  obtain⟨h1,h2,h3⟩:=Fo (side:=side) W (h y (Lg ..))
  exact yo (l:=l) h1 fun z hz=>(h z (K9 _ hz)).same h2 h3
theorem CStep.cw {p:PolicyD} {w w':WorldD} {l:List LetterD} {side:Int} (W:CW p w) (S:CStep p w w' l) (L:Le w w') (hb:w'.bag=w.bag):CW p (bY side w' l):=
 yo ⟨S.e,fun x hx=>(W.l x (hb▸hx)).mono W.e.cs.pw L S.ea S.fa S.na S.nb⟩ S.ls
theorem Fp {p:PolicyD} {w:WorldD} {x:LetterD} (hp:p∈pols) (I:Inv w) (ga:SmallP w.a.inp) (gb:SmallP w.b.inp) (W:CW p w) (L:LetI w x) (X:CL w x):CW p (eY w x):=by
 rcases iy x.to with h0|h0|h0
 ·exact absurd h0 X.to
 ·rw [eY,if_neg zO,f6,if_pos (.inl h0),h0]
  exact (Hq hp I.c ga L W.e X h0).cw W (Fa I.c ga L h0).le rfl
 rw [eY,if_neg zO,f6,if_pos (.inr h0),h0]
 exact (Hr hp I.c gb L W.e X h0).cw W (Fc I.c gb L h0).le rfl
theorem CW.out {p:PolicyD} {w:WorldD} (W:CW p w) {l:List LetterD} (h:∀ x∈l,x∈w.bag):CW p { w with bag:=l }:=⟨W.e.same rfl rfl rfl,fun x hx=>(W.l x (h x hx)).same rfl rfl⟩
theorem Az {p:PolicyD} {w:WorldD} {a:ActD} (hp:p∈pols) (I:Inv w) (ga:SmallP w.a.inp) (gb:SmallP w.b.inp) (W:CW p w) (A:CalmA a):CW p (gZ w a).1:=by
 unfold gZ;split
 case isFalse=>exact W
 rename_i hok
 have hs:=i_ hok
 split
 ·rename_i h7
  unfold Ct;split
  ·exact W
  rename_i hb
  have hb:ll w a=false:=by simpa using hb
  obtain⟨k1,k2⟩:=ul w a a.side (dj (dc w a.side) a).1
  rcases hs with hs|hs
  ·have hE:dc w a.side=w.a:=by rw [hs];rfl
   rw [hE] at k1 k2⊢
   rw [hs] at k1 k2⊢
   exact (Df hp I.c ga W.e A hs h7).cw W (JK I.c ga hs hb).le k1
  have hE:dc w a.side=w.b:=by rw [hs];rfl
  rw [hE] at k1 k2⊢
  rw [hs] at k1 k2⊢
  exact (Dg hp I.c gb W.e A hs h7).cw W (JO I.c gb hs hb).le k1
 rename_i h7
 have kk:=A.k
 have hp0:=nD hok
 unfold ou
 split
 ·split
  ·exact W
  rename_i hl
  split
  ·have hx:ot w.bag a.pos.toNat∈w.bag:=iD zO
   refine Fp hp (vR I fun x hx=>I.bag x (jb hx)) ga gb (W.out fun x hx=>jb hx) ?_ ((W.l _ hx).same rfl rfl)
   exact (I.bag _ hx).mono (mB rfl rfl (fun _ h=>h) rfl rfl)
  exact W.out fun x hx=>jb hx
 split
 ·split
  ·exact W
  rename_i hl
  rw [not_or] at hl
  refine W.out fun x hx=>?_
  rcases K2.1 hx with hx|hx
  ·exact hx
  rw [K1.1 hx];exact iD zO
 omega
theorem Start.cw {w:WorldD} (S:Start w) (T:Start2 w):CW w.a.policy w:=by
 have h:=S.e
 simp only [startE,KZ,decide_eq_true_eq] at h
 obtain⟨⟨⟨⟨⟨⟨okx,oky⟩,h1,h2,h3,h4,h5,h6,h7,h8,h9,h10,h11,h12⟩,g1,g2,g3,g4,g5,g6,g7,g8⟩,o1,o2⟩,i1,i2,i3,i4,i5,i6⟩,s1,s2⟩:=h
 have n1:nextOf w.a.inp=0:=by unfold nextOf;rw [i1,i2];rfl
 have n2:nextOf w.b.inp=0:=by unfold nextOf;rw [i4,i5];rfl
 have a0:w.a.subs=[subA0]:=s1
 have b0:w.b.subs=[subB0]:=s2
 refine⟨⟨⟨⟨[],a0⟩,⟨[],b0⟩,by rw [a0];exact Ld ..,fun s _ _ k hk=>by rw [g2] at hk;simp at hk,fun s hs _ t ht _=>?_,fun s hs t ht _=>?_,fun s hs e=>?_⟩,S.nums,rfl,⟨false,true,[],g3,zP⟩,⟨false,true,[],g5,zP⟩,⟨false,true,[],g4,zP⟩,⟨false,true,[],g6,zP⟩,T.done,T.over,⟨by rw [o1],by rw [o2]⟩,fun q hq e=>?_,fun s hs=>?_,by rw [o1,n2];exact K3 _,by rw [o2,n1];exact K3 _,fun q hq=>(by rw [g2] at hq;simp at hq)⟩,fun x hx=>by rw [S.bag] at hx;simp at hx⟩
 ·rw [b0] at ht;rw [K1.1 ht];rfl
 ·rw [a0] at hs;rw [b0] at ht;rw [K1.1 hs,K1.1 ht];exact⟨rfl,rfl⟩
 ·rw [a0] at hs;rw [K1.1 hs] at e;simp [subA0] at e
 ·rw [g4] at hq;rw [e_,K1] at hq;rw [hq] at e;simp at e
 rw [a0] at hs;rw [K1.1 hs];exact (ly T.pol _ _).first
def yp (k s m:Int):ActD:=⟨k,s,0,m,[],⟨0,0,false,false⟩,aj⟩
attribute [go_sem] yp aj
structure CntE (e e':EndD):Prop where
 now:e'.now<=e.now+1
 draw:e'.draw<=e.draw+40
 tr:∀ s∈e'.subs,s.tries<=0\/∃ q∈e.subs,s.tries<=q.tries+1
theorem CntE.same {e e':EndD} (h1:e'.now<=e.now+1) (h2:e'.draw<=e.draw+40) (h3:e'.subs=e.subs):CntE e e':=⟨h1,h2,fun s hs=>.inr ⟨s,h3▸hs,zO⟩⟩
theorem CntE.refl (e:EndD):CntE e e:=CntE.same zO zO rfl
theorem AA {l:List SubD} {n:Nat} {q:SubD} (hn:n < l.length) (hq:q.tries<=0\/q.tries<=l[n].tries+1):∀ s∈l.set n q,s.tries<=0\/∃ r∈l,s.tries<=r.tries+1:=by
 intro s hs
 rcases K7 hs with hs|rfl
 ·exact .inr ⟨s,hs,zO⟩
 rcases hq with h|h
 ·exact .inl h
 exact .inr ⟨_,K0 hn,h⟩
theorem yq {e:EndD} {x:LetterD} (kk:4<=x.kind/\x.kind<=12/\¬ x.kind=10):CntE e (hear e x).1:=by
 have F:=eJ e x
 generalize hear e x=r at F⊢
 cases F with
 |stay=>exact CntE.refl e
 |other r k=>omega
 |join1 k ok n hn hr h1 h2=>exact CntE.same (by dsimp only;omega) (by dsimp only;omega) rfl
 |join2 k ok no=>exact CntE.same (by dsimp only;omega) (by dsimp only;omega) rfl
 |back k n hn h1 hr ht=>exact⟨by dsimp only;omega,by dsimp only;omega,AA hn (.inl (K3 _))⟩
 |done1 k i hi hr h8 ht m hm=>
  refine⟨by dsimp only;omega,by dsimp only;omega,fun s hs=>?_⟩
  rcases K2.1 hs with hs|hs
  ·rcases hm with rfl|⟨n,hn,_,_,rfl⟩
   ·exact .inr ⟨s,hs,zO⟩
   exact AA hn (.inr (by dsimp only;omega)) s hs
  rw [K1.1 hs];exact .inl (K3 _)
 |done2=>exact CntE.refl e
 |ack k n hn h2 hr ht=>exact⟨by dsimp only;omega,by dsimp only;omega,AA hn (.inr (by dsimp only;omega))⟩
 |addr=>exact CntE.same (by dsimp only;omega) (by dsimp only;omega) rfl
 |echo=>exact CntE.same (by dsimp only;omega) (by dsimp only;omega) rfl
 |data=>exact CntE.same (by dsimp only;omega) (by dsimp only;omega) rfl
 |came=>exact CntE.same (by dsimp only;omega) (by dsimp only;omega) rfl
theorem BE {e:EndD}:(ck e).1.now=e.now/\(ck e).1.draw=e.draw:=by unfold ck;split<;>exact⟨rfl,rfl⟩
theorem iE:∀ {k:Nat} {e:EndD},(bC k e).1.now=e.now/\(bC k e).1.draw=e.draw
 |0,e=>⟨rfl,rfl⟩
 |k+1,e=>⟨(iE (k:=k)).1.trans BE.1,(iE (k:=k)).2.trans BE.2⟩
theorem yr {e:EndD} {t:List UInt8}:(cf e t).1.now=e.now/\(cf e t).1.draw=e.draw:=by unfold cf;split<;>exact⟨rfl,rfl⟩
theorem lz {far:List AddrD}:∀ {l:List RoadD} {e:EndD},∃ news:List SubD,(ci far e l).1={ e with subs:=e.subs++news,draw:=(ci far e l).1.draw }/\(ci far e l).2=news.map (dX e)/\(∀ s∈news,s.state=1/\s.tries=0)/\(ci far e l).1.draw<=e.draw+4*(l.length:Int)/\e.draw<=(ci far e l).1.draw
 |[],e=>⟨[],by simp [ci],rfl,fun s hs=>by simp at hs,by simp [ci],by simp [ci]⟩
 |r::l,e=>by
  by_cases hk:sT e r=true
  ·have hj:cA e r (aD far r.far)=({ e with subs:=e.subs++[bz e r (aD far r.far)],draw:=e.draw+4 },[dX e (bz e r (aD far r.far))]):=if_pos hk
   obtain⟨news,h1,h2,h3,h4,h5⟩:=lz (far:=far) (l:=l) (e:=(cA e r (aD far r.far)).1)
   rw [ci]
   rw [hj] at h1 h2 h4 h5⊢
   dsimp only at h1 h2 h4 h5⊢
   refine⟨bz e r (aD far r.far)::news,?_,?_,fun s hs=>?_,by rw [Lp];omega,zO⟩
   ·rw [h1,LN,Mc]
   ·rw [h2,Mf];rfl
   rcases Lf.1 hs with rfl|hs
   ·exact⟨rfl,rfl⟩
   exact h3 s hs
  have hj:cA e r (aD far r.far)=(e,[]):=if_neg hk
  obtain⟨news,h1,h2,h3,h4,h5⟩:=lz (far:=far) (l:=l) (e:=e)
  rw [ci,hj]
  refine⟨news,h1,by rw [h2];rfl,h3,?_,h5⟩
  show (ci far e l).1.draw<=_
  rw [Lp];omega
theorem Fq (s:SubD):(aL s).tries<=s.tries+1:=by
 unfold aL
 repeat' split
 all_goals first
  |omega
  |(dsimp only;omega)
theorem BF {e:EndD} {a:ActD} (A:CalmA a) (h7:a.kind<=7) (hm:a.kind=4->(dy (wanted e.policy e.own e.far) (e7 e.subs)).length<=10):CntE e (dj e a).1:=by
 have kk:=A.k
 unfold dj
 split
 ·exact CntE.same (by have:=iE (k:=3) (e:=(cf e a.text).1);have:=yr (e:=e) (t:=a.text);unfold writeAll;omega) (by have:=iE (k:=3) (e:=(cf e a.text).1);have:=yr (e:=e) (t:=a.text);unfold writeAll;omega) (fB.trans gO.subs)
 split
 ·unfold b_;split
  ·exact CntE.same (by dsimp only;omega) (by dsimp only;omega) rfl
  exact CntE.refl e
 split
 ·unfold tick;split
  ·split
   ·unfold bm
    have h:=iE (k:=3) (e:={ bU e with subs:=e.subs.map aL })
    refine⟨by dsimp only;rw [h.1];exact K3 _,by dsimp only;rw [h.2];show e.draw<=e.draw+40;omega,fun s hs=>?_⟩
    have hs:s∈(bC 3 { bU e with subs:=e.subs.map aL }).1.subs:=hs
    rw [fB] at hs
    obtain⟨q,q1,rfl⟩:=Ll.1 hs
    exact .inr ⟨q,q1,Fq q⟩
   unfold bm
   have h:=iE (k:=3) (e:=bU e)
   exact CntE.same (by dsimp only;rw [h.1];exact K3 _) (by dsimp only;rw [h.2];show e.draw<=e.draw+40;omega) fB
  exact CntE.refl e
 split
 ·rename_i k4
  have hm:=hm k4
  unfold manage;split
  ·obtain⟨news,h1,h2,h3,h4,h5⟩:=lz (far:=e.far) (l:=dy (wanted e.policy e.own e.far) (e7 e.subs)) (e:=e)
   refine⟨?_,zO,fun s hs=>?_⟩
   ·rw [h1];dsimp only;omega
   rw [h1] at hs
   rcases K2.1 hs with hs|hs
   ·exact .inr ⟨s,hs,zO⟩
   exact .inl (by have:=(h3 s hs).2;omega)
  exact CntE.refl e
 split
 ·unfold addOwn;split
  ·exact CntE.same (by dsimp only;omega) (by dsimp only;omega) rfl
  exact CntE.refl e
 omega
structure Cnt (w:WorldD) (k:Nat):Prop where
 na:w.a.now<=(k:Int)
 nb:w.b.now<=(k:Int)
 da:w.a.draw<=2000+40*(k:Int)
 db:w.b.draw<=2000+40*(k:Int)
 tr:∀ s∈w.a.subs,s.tries<=(k:Int)
 trb:∀ s∈w.b.subs,s.tries<=(k:Int)
theorem Cnt.up {w:WorldD} {k:Nat} (h:Cnt w k):Cnt w (k+1):=⟨by have:=h.na;omega,by have:=h.nb;omega,by have:=h.da;omega,by have:=h.db;omega,fun s hs=>by have:=h.tr s hs;omega,fun s hs=>by have:=h.trb s hs;omega⟩
theorem Cnt.stepA {w w':WorldD} {k:Nat} (h:Cnt w k) (S:CntE w.a w'.a) (hb:w'.b=w.b):Cnt w' (k+1):=by
 have h1:=S.now;have h2:=S.draw
 have g1:=h.na;have g2:=h.nb;have g3:=h.da;have g4:=h.db
 refine⟨zO,by rw [hb];omega,zO,by rw [hb];omega,fun s hs=>?_,fun s hs=>?_⟩
 ·rcases S.tr s hs with q|⟨r,r1,r2⟩
  ·omega
  have:=h.tr r r1;omega
 have:=h.trb s (hb▸hs);omega
theorem Cnt.stepB {w w':WorldD} {k:Nat} (h:Cnt w k) (S:CntE w.b w'.b) (ha:w'.a=w.a):Cnt w' (k+1):=by
 have h1:=S.now;have h2:=S.draw
 have g1:=h.na;have g2:=h.nb;have g3:=h.da;have g4:=h.db
 refine⟨by rw [ha];omega,zO,by rw [ha];omega,zO,fun s hs=>?_,fun s hs=>?_⟩
 ·have:=h.tr s (ha▸hs);omega
 rcases S.tr s hs with q|⟨r,r1,r2⟩
 ·omega
 have:=h.trb r r1;omega
theorem Cnt.same {w w':WorldD} {k:Nat} (h:Cnt w k) (ha:w'.a=w.a) (hb:w'.b=w.b):Cnt w' k:=⟨by rw [ha];exact h.na,by rw [hb];exact h.nb,by rw [ha];exact h.da,by rw [hb];exact h.db,by rw [ha];exact h.tr,by rw [hb];exact h.trb⟩
theorem ys {p:PolicyD} {w:WorldD} (hp:p∈pols) (C:Core w) (E:CE p w) (l:List RoadD):(dy (wanted w.a.policy w.a.own w.a.far) l).length<=4:=by
 rw [dy];split
 ·rw [um E.ownA C.oka.own E.farA C.oka.far,E.pol]
  exact Lo (Mb _ _) (ly hp _ _).len
 simp
theorem Dh {p:PolicyD} {w:WorldD} {x:LetterD} {k:Nat} (h:Cnt w k) (X:CL w x):Cnt (eY w x) (k+1):=by
 rcases iy x.to with h0|h0|h0
 ·exact absurd h0 X.to
 ·rw [eY,if_neg zO,f6,if_pos (.inl h0),h0]
  have e:=dw (side:=1) (l:=(hear w.a x).2) (w:=aV w 1 (hear w.a x).1)
  refine h.stepA ?_ (e.2.1.trans rfl)
  show CntE w.a (bY 1 (aV w 1 (hear w.a x).1) (hear w.a x).2).a
  rw [e.1]
  exact yq X.kind
 rw [eY,if_neg zO,f6,if_pos (.inr h0),h0]
 have e:=dw (side:=2) (l:=(hear w.b x).2) (w:=aV w 2 (hear w.b x).1)
 refine h.stepB ?_ (e.1.trans rfl)
 show CntE w.b (bY 2 (aV w 2 (hear w.b x).1) (hear w.b x).2).b
 rw [e.2.1]
 exact yq X.kind
theorem Fr (w:WorldD) (a:ActD) (e:EndD):(aV (fA w a) 1 e).a=e/\(aV (fA w a) 1 e).b=w.b:=⟨rfl,(nF w a).2.1⟩
theorem Fs (w:WorldD) (a:ActD) (e:EndD):(aV (fA w a) 2 e).b=e/\(aV (fA w a) 2 e).a=w.a:=⟨rfl,(nF w a).1⟩
theorem Ft {e:EndD} (h:¬ e.side=1):manage e=(e,[]):=by rw [manage,if_neg (fun h2=>h h2.2)]
theorem Di {p:PolicyD} {w:WorldD} {a:ActD} {k:Nat} (hp:p∈pols) (C:Core w) (W:CW p w) (h:Cnt w k) (A:CalmA a):Cnt (gZ w a).1 (k+1):=by
 unfold gZ;split
 case isFalse=>exact h.up
 rename_i hok
 have hs:=i_ hok
 split
 ·rename_i h7
  unfold Ct;split
  ·exact h.up
  rcases hs with hs|hs
  ·have hE:dc w a.side=w.a:=by rw [hs];rfl
   rw [hE,hs]
   have e:=dw (side:=1) (l:=(dj w.a a).2) (w:=aV (fA w a) 1 (dj w.a a).1)
   have q:=Fr w a (dj w.a a).1
   refine h.stepA ?_ (e.2.1.trans q.2)
   show CntE w.a (bY 1 (aV (fA w a) 1 (dj w.a a).1) (dj w.a a).2).a
   rw [e.1,q.1]
   exact BF A h7 fun _=>by have:=ys hp C W.e (e7 w.a.subs);omega
  have hE:dc w a.side=w.b:=by rw [hs];rfl
  rw [hE,hs]
  have e:=dw (side:=2) (l:=(dj w.b a).2) (w:=aV (fA w a) 2 (dj w.b a).1)
  have q:=Fs w a (dj w.b a).1
  refine h.stepB ?_ (e.1.trans q.2)
  show CntE w.b (bY 2 (aV (fA w a) 2 (dj w.b a).1) (dj w.b a).2).b
  rw [e.2.1,q.1]
  by_cases k4:a.kind=4
  ·have hm:dj w.b a=manage w.b:=by simp [dj,k4]
   rw [hm,Ft (by have:=C.sib;omega)]
   exact CntE.refl _
  exact BF A h7 fun k=>absurd k k4
 rename_i h7
 have kk:=A.k
 unfold ou
 split
 ·split
  ·exact h.up
  rename_i hl
  split
  ·have hx:ot w.bag a.pos.toNat∈w.bag:=iD (by have:=nD hok;omega)
   exact Dh (p:=p) (h.same rfl rfl) ((W.l _ hx).same rfl rfl)
  exact h.up.same rfl rfl
 split
 ·split
  ·exact h.up
  exact h.up.same rfl rfl
 omega
structure LV (p:PolicyD) (w:WorldD) (k:Nat):Prop where
 life:∃ j,Life w j
 cw:CW p w
 cnt:Cnt w k
theorem LV.i {p:PolicyD} {w:WorldD} {k:Nat} (h:LV p w k):Inv w:=by obtain⟨j,h⟩:=h.life;exact h.i
theorem LV.c {p:PolicyD} {w:WorldD} {k:Nat} (h:LV p w k):Core w:=h.i.c
theorem LV.ga {p:PolicyD} {w:WorldD} {k:Nat} (h:LV p w k):SmallP w.a.inp:=by obtain⟨j,h⟩:=h.life;exact h.g.a.p
theorem LV.gb {p:PolicyD} {w:WorldD} {k:Nat} (h:LV p w k):SmallP w.b.inp:=by obtain⟨j,h⟩:=h.life;exact h.g.b.p
theorem LV.y {p:PolicyD} {w:WorldD} {k:Nat} (h:LV p w k):YoungE w.a/\YoungE w.b:=by obtain⟨j,h⟩:=h.life;exact⟨h.n.a.y,h.n.b.y⟩
theorem LV.done {p:PolicyD} {w:WorldD} {a:ActD} {k:Nat} (hp:p∈pols) (h:LV p w k) (A:CalmA a) (ht:a.text.length<=1048576):LV p (gZ w a).1 (k+1):=by
 obtain⟨j,hj⟩:=h.life
 exact⟨⟨j+1,hj.step ht⟩,Az hp h.i h.ga h.gb h.cw A,Di hp h.c h.cw h.cnt A⟩
theorem nM {side:Int}:∀ {l:List LetterD} {w:WorldD},(∀ y∈l,¬ sideAt y.to=0)->w.bag.length+l.length<=40->(bY side w l).bag=w.bag++l
 |[],w,_,_=>by rw [Lj];rfl
 |y::l,w,h,hl=>by
  have hy:=h y (Lg ..)
  have e:bl side w y={ tR side w y with bag:=w.bag++[y] }:=by
   rw [bl,if_neg hy,H6 (by rw [Lp] at hl;omega)]
  have:=nM (side:=side) (l:=l) (w:=bl side w y) (fun z hz=>h z (K9 _ hz)) (by rw [e];dsimp only;rw [K8,Li];rw [Lp] at hl;omega)
  show (bY side (bl side w y) l).bag=w.bag++(y::l)
  rw [this,e]
  dsimp only
  rw [LN,Mc]
def vZ (w:WorldD):WorldD:=(gZ w (yp 8 1 0)).1
theorem Fu {w:WorldD} {x:LetterD} {l:List LetterD} (hb:w.bag=x::l):vZ w=eY { w with bag:=l } x:=by
 have e:vZ w=(ou w (yp 8 1 0)).1:=by unfold vZ gZ;rw [if_pos zD,if_neg zD]
 rw [e]
 unfold ou
 rw [if_pos (.inl rfl),if_neg (by rw [hb];simp [yp]),if_pos (show (yp 8 1 0).kind=8 from rfl),hb]
 rfl
theorem CW.x {p:PolicyD} {w:WorldD} {x:LetterD} {l:List LetterD} (W:CW p w) (hb:w.bag=x::l):CL w x:=W.l x (by rw [hb];exact Lg ..)
theorem JS {p:PolicyD} {w:WorldD} {k:Nat} {x:LetterD} {l:List LetterD} (hp:p∈pols) (h:LV p w k) (hb:w.bag=x::l) (hl:w.bag.length<=40) (hx:sideAt x.to=1):
  (vZ w).a=(hear w.a x).1/\(vZ w).b=w.b/\(vZ w).bag=l++(hear w.a x).2/\(vZ w).wroteA=w.wroteA/\(vZ w).wroteB=w.wroteB/\(vZ w).readA=w.readA/\(vZ w).readB=w.readB:=by
 rw [Fu hb,eY,if_neg zO,f6,if_pos (.inl hx),hx]
 have e:=dw (side:=1) (l:=(hear w.a x).2) (w:=aV { w with bag:=l } 1 (hear w.a x).1)
 refine⟨e.1,e.2.1,?_,e.2.2.1,e.2.2.2.1,e.2.2.2.2.1,e.2.2.2.2.2⟩
 have S:=Hq hp h.c h.ga (h.i.bag x (by rw [hb];exact Lg ..)) h.cw.e (h.cw.x hb) hx
 exact nM (fun y hy=>(S.ls y hy).to) (by
  have:=mn (e:=w.a) (x:=x)
  rw [hb,Lp] at hl
  show l.length+(hear w.a x).2.length<=40
  omega)
theorem JT {p:PolicyD} {w:WorldD} {k:Nat} {x:LetterD} {l:List LetterD} (hp:p∈pols) (h:LV p w k) (hb:w.bag=x::l) (hl:w.bag.length<=40) (hx:sideAt x.to=2):
  (vZ w).b=(hear w.b x).1/\(vZ w).a=w.a/\(vZ w).bag=l++(hear w.b x).2/\(vZ w).wroteA=w.wroteA/\(vZ w).wroteB=w.wroteB/\(vZ w).readA=w.readA/\(vZ w).readB=w.readB:=by
 rw [Fu hb,eY,if_neg zO,f6,if_pos (.inr hx),hx]
 have e:=dw (side:=2) (l:=(hear w.b x).2) (w:=aV { w with bag:=l } 2 (hear w.b x).1)
 refine⟨e.2.1,e.1,?_,e.2.2.1,e.2.2.2.1,e.2.2.2.2.1,e.2.2.2.2.2⟩
 have S:=Hr hp h.c h.gb (h.i.bag x (by rw [hb];exact Lg ..)) h.cw.e (h.cw.x hb) hx
 exact nM (fun y hy=>(S.ls y hy).to) (by
  have:=mn (e:=w.b) (x:=x)
  rw [hb,Lp] at hl
  show l.length+(hear w.b x).2.length<=40
  omega)
def jr (x:LetterD):Option RoadD:=if x.kind=5\/x.kind=7 then some (roadOf x) else if x.kind=4\/x.kind=6 then some (bk (roadOf x)) else none
def askL (s:SubD):LetterD:=ae s.road { aj with kind:=4,token:=102,nonce:=s.mine,give:=s.take,spare:=s.spare }
def bckL (ka kb:Int) (h:HalfD):LetterD:=ae h.road { aj with kind:=5,tag:=⟨1,kb,ka,h.mine,h.theirs⟩,nonce:=h.mine,give:=h.take }
def gP (ka kb:Int) (s:SubD):LetterD:=ae s.road { aj with kind:=6,tag:=⟨2,ka,kb,s.mine,s.theirs⟩}
theorem Fv (s:SubD):jr (askL s)=some s.road:=by
 rw [jr,if_neg (by rintro (h|h)<;>cases h),if_pos (.inl rfl),askL,bb,ee]
theorem sy (ka kb:Int) (h:HalfD):jr (bckL ka kb h)=some (bk h.road):=by
 rw [jr,if_pos (.inl rfl),bckL,bb]
theorem AB (ka kb:Int) (s:SubD):jr (gP ka kb s)=some s.road:=by
 rw [jr,if_neg (by rintro (h|h)<;>cases h),if_pos (.inr rfl),gP,bb,ee]
theorem Fw (r:RoadD) (g:Int):jr (dU r g)=some (bk r):=by
 rw [jr,if_pos (.inr rfl),dU,bb]
theorem GT {x:LetterD} (h:x.kind=8\/x.kind=9\/x.kind=11\/x.kind=12):jr x=none:=by
 rw [jr,if_neg zO,if_neg zO]
theorem sA {x:LetterD} {l:List LetterD} (h:((x::l).filterMap jr).Nodup):(l.filterMap jr).Nodup:=
 h.sublist ((List.sublist_cons_self x l).filterMap jr)
theorem nN {x:LetterD} {l:List LetterD} (h:((x::l).filterMap jr).Nodup) {r:RoadD} (hx:jr x=some r) {y:LetterD} (hy:y∈l):¬ jr y=some r:=fun hc=>by
 rw [LK hx,Ml] at h
 exact h.1 (List.mem_filterMap.2 ⟨y,hy,hc⟩)
theorem GU {l m:List LetterD} (h:(l.filterMap jr).Nodup) (hm:∀ y∈m,jr y=none):((l++m).filterMap jr).Nodup:=by
 rw [Md,List.filterMap_eq_nil_iff.2 hm,Lj]
 exact h
theorem AC {x y:LetterD} {l:List LetterD} {r:RoadD} (h:((x::l).filterMap jr).Nodup) (hx:jr x=some r) (hy:jr y=some r):((l++[y]).filterMap jr).Nodup:=by
 rw [LK hx,Ml] at h
 rw [Md,LK hy,List.filterMap_nil,List.nodup_append]
 refine⟨h.2,Ld ..,fun a ha b hb=>?_⟩
 rw [K1.1 hb]
 intro e
 exact h.1 (e▸ha)
def Mt (h:HalfD) (s:SubD):Prop:=h.road=bk s.road/\h.theirs=s.mine/\h.give=s.take
def T2 (ka kb:Int) (H:List HalfD) (bag:List LetterD) (s:SubD):Prop:=gP ka kb s∈bag/\∃ h∈H,Mt h s/\h.mine=s.theirs
def T3 (bag:List LetterD) (s:SubD):Prop:=dU (bk s.road) s.take∈bag
def Went (ka kb:Int) (H:List HalfD) (bag:List LetterD) (s t:SubD):Prop:=(s.state=1\/s.state=2)/\t.road=s.road/\(t.state=3\/t.state=2/\(T2 ka kb H bag t\/T3 bag t))
structure Dr (ka kb:Int) (S T:List SubD) (H:List HalfD) (bag:List LetterD):Prop where
 len:T.length=S.length
 nd:(bag.filterMap jr).Nodup
 ask:∀ x∈bag,x.kind=4->∃ s∈T,s.state=1/\x=askL s
 bck:∀ x∈bag,x.kind=5->∃ s∈T,s.state=1/\∃ h∈H,Mt h s/\x=bckL ka kb h
 st:∀ (n:Nat) (hn:n < T.length) (hs:n < S.length),T[n]=S[n]\/Went ka kb H bag S[n] T[n]
theorem T2.kind {ka kb:Int} {s:SubD}:(gP ka kb s).kind=6:=rfl
theorem T3.kind {r:RoadD} {g:Int}:(dU r g).kind=7:=rfl
theorem dY {x y:LetterD} {l:List LetterD} (h:y∈x::l) (hk:¬ x.kind=y.kind):y∈l:=by
 rcases Lf.1 h with rfl|h
 ·exact absurd rfl hk
 exact h
theorem Dr.mild {ka kb:Int} {S T:List SubD} {H:List HalfD} {x:LetterD} {l m:List LetterD} (D:Dr ka kb S T H (x::l)) (k:x.kind=8\/x.kind=9\/x.kind=11\/x.kind=12) (hm:∀ y∈m,y.kind=9\/y.kind=12):Dr ka kb S T H (l++m):=by
 have dn:∀ y∈l++m,y.kind=4\/y.kind=5->y∈x::l:=fun y hy k=>by
  rcases K2.1 hy with hy|hy
  ·exact K9 _ hy
  have:=hm y hy;omega
 refine⟨D.len,GU (sA D.nd) fun y hy=>GT (by have:=hm y hy;omega),fun y hy k=>D.ask y (dn y hy (.inl k)) k,fun y hy k=>D.bck y (dn y hy (.inr k)) k,fun n hn hs=>?_⟩
 rcases D.st n hn hs with h|⟨h1,h2,h3⟩
 ·exact .inl h
 refine .inr ⟨h1,h2,?_⟩
 rcases h3 with h|⟨h4,h5⟩
 ·exact .inl h
 refine .inr ⟨h4,?_⟩
 rcases h5 with⟨a,b⟩|a
 ·exact .inl ⟨K_ _ (dY a (by rw [T2.kind];omega)),b⟩
 exact .inr (K_ _ (dY a (by rw [T3.kind];omega)))
theorem Dr.ask0 {ka kb:Int} {S T:List SubD} {H:List HalfD} {x:LetterD} {l:List LetterD} (D:Dr ka kb S T H (x::l)) (k:x.kind=4):Dr ka kb S T H l:=by
 refine⟨D.len,sA D.nd,fun y hy=>D.ask y (K9 _ hy),fun y hy=>D.bck y (K9 _ hy),fun n hn hs=>?_⟩
 rcases D.st n hn hs with h|⟨h1,h2,h3⟩
 ·exact .inl h
 refine .inr ⟨h1,h2,?_⟩
 rcases h3 with h|⟨h4,h5⟩
 ·exact .inl h
 refine .inr ⟨h4,?_⟩
 rcases h5 with⟨a,b⟩|a
 ·exact .inl ⟨dY a (by rw [T2.kind];omega),b⟩
 exact .inr (dY a (by rw [T3.kind];omega))
def uz (r:RoadD) (H H':List HalfD):Prop:=∀ h∈H,¬ h.road=r->∃ h'∈H',h'.road=h.road/\h'.theirs=h.theirs/\h'.give=h.give/\h'.mine=h.mine/\h'.take=h.take
theorem BG {ka kb:Int} {h h':HalfD} (e:h'.road=h.road/\h'.theirs=h.theirs/\h'.give=h.give/\h'.mine=h.mine/\h'.take=h.take):bckL ka kb h'=bckL ka kb h:=by
 unfold bckL;rw [e.1,e.2.1,e.2.2.2.1,e.2.2.2.2]
theorem Mt.eq {h h':HalfD} {s:SubD} (M:Mt h s) (e:h'.road=h.road/\h'.theirs=h.theirs/\h'.give=h.give/\h'.mine=h.mine/\h'.take=h.take):Mt h' s:=⟨e.1.trans M.1,e.2.1.trans M.2.1,e.2.2.1.trans M.2.2⟩
theorem AD {r q:RoadD} (h:bk r=bk q):r=q:=by rw [<-ee r,h,ee]
theorem Dr.ask1 {ka kb:Int} {S T:List SubD} {H H':List HalfD} {s:SubD} {h0:HalfD} {l:List LetterD} (D:Dr ka kb S T H (askL s::l)) (hs:s∈T) (h1:s.state=1) (hst:uz (bk s.road) H H') (hh:h0∈H') (hm:Mt h0 s):Dr ka kb S T H' (l++[bckL ka kb h0]):=by
 have jx:=Fv s
 have jy:jr (bckL ka kb h0)=some s.road:=by rw [sy,hm.1,ee]
 have tl:∀ {y:LetterD},y∈askL s::l->¬ y.kind=4->y∈l:=fun hy k=>dY hy (by show ¬ (4:Int)=_;omega)
 refine⟨D.len,AC D.nd jx jy,fun y hy k=>?_,fun y hy k=>?_,fun n hn hs'=>?_⟩
 ·rcases K2.1 hy with hy|hy
  ·exact D.ask y (K9 _ hy) k
  rw [K1.1 hy] at k;cases k
 ·rcases K2.1 hy with hy|hy
  ·obtain⟨q,q1,q2,h,g1,g2,g3⟩:=D.bck y (K9 _ hy) k
   have ne:¬ h.road=bk s.road:=fun hc=>nN D.nd jx hy (by rw [g3,sy,hc,ee])
   obtain⟨h',e1,e2⟩:=hst h g1 ne
   exact⟨q,q1,q2,h',e1,g2.eq e2,by rw [g3,BG e2]⟩
  exact⟨s,hs,h1,h0,hh,hm,K1.1 hy⟩
 rcases D.st n hn hs' with h|⟨a1,a2,a3⟩
 ·exact .inl h
 refine .inr ⟨a1,a2,?_⟩
 rcases a3 with h|⟨h4,h5⟩
 ·exact .inl h
 refine .inr ⟨h4,?_⟩
 rcases h5 with⟨a,h,g1,g2,g3⟩|a
 ·have hl:=tl a (by rw [T2.kind];omega)
  have ne:¬ h.road=bk s.road:=fun hc=>nN D.nd jx hl (by rw [AB];rw [g2.1] at hc;rw [AD hc])
  obtain⟨h',e1,e2⟩:=hst h g1 ne
  exact .inl ⟨K_ _ hl,h',e1,g2.eq e2,e2.2.2.2.1.trans g3⟩
 exact .inr (K_ _ (tl a (by rw [T3.kind];omega)))
theorem Fx {T:List SubD} (ok:SuOk T) {s t:SubD} (hs:s∈T) (ht:t∈T) (h1:¬ s.state=4) (h2:¬ t.state=4) (e:s.road=t.road):s=t:=by
 obtain⟨i,hi,rfl⟩:=K6 hs
 obtain⟨j,hj,rfl⟩:=K6 ht
 have p:=ok.pw
 rw [K5] at p
 rcases Lu i j with g|g|g
 ·rcases p i j hi hj g with h|h|h
  ·exact absurd h h1
  ·exact absurd h h2
  exact absurd e h
 ·subst g;rfl
 rcases p j i hj hi g with h|h|h
 ·exact absurd h h2
 ·exact absurd h h1
 exact absurd e.symm h
theorem Dr.bck1 {ka kb:Int} {S T:List SubD} {H:List HalfD} {h0:HalfD} {l:List LetterD} (ok:SuOk T) (D:Dr ka kb S T H (bckL ka kb h0::l)) {n:Nat} (hn:n < T.length) (h1:T[n].state=1) (hh:h0∈H) (hm:Mt h0 T[n]) {t:SubD} (ht:t={ T[n] with state:=2,theirs:=h0.mine,give:=h0.take,tries:=0 }):Dr ka kb S (T.set n t) H (l++[gP ka kb t]):=by
 have jx:jr (bckL ka kb h0)=some T[n].road:=by rw [sy,hm.1,ee]
 have tr:t.road=T[n].road:=by rw [ht]
 have ts:t.state=2:=by rw [ht]
 have jy:jr (gP ka kb t)=some T[n].road:=by rw [AB,tr]
 have tl:∀ {y:LetterD},y∈bckL ka kb h0::l->¬ y.kind=5->y∈l:=fun hy k=>dY hy (by show ¬ (5:Int)=_;omega)
 have old:∀ s∈T,s.state=1->¬ s.road=T[n].road->s∈T.set n t:=fun s hs h1 hne=>by
  obtain⟨i,hi,rfl⟩:=K6 hs
  refine Ls.2 ⟨i,by rw [La];exact hi,?_⟩
  rw [Lb,if_neg (fun hc=>by subst hc;exact hne rfl)]
 refine⟨by rw [La];exact D.len,AC D.nd jx jy,fun y hy k=>?_,fun y hy k=>?_,fun i hi hs'=>?_⟩
 ·rcases K2.1 hy with hy|hy
  ·obtain⟨s,s1,s2,s3⟩:=D.ask y (K9 _ hy) k
   exact⟨s,old s s1 s2 fun hc=>nN D.nd jx hy (by rw [s3,Fv,hc]),s2,s3⟩
  rw [K1.1 hy] at k;cases k
 ·rcases K2.1 hy with hy|hy
  ·obtain⟨s,s1,s2,h,g1,g2,g3⟩:=D.bck y (K9 _ hy) k
   exact⟨s,old s s1 s2 fun hc=>nN D.nd jx hy (by rw [g3,sy,g2.1,ee,hc]),s2,h,g1,g2,g3⟩
  rw [K1.1 hy] at k;cases k
 rw [Lb]
 have hi':i < T.length:=by rw [La] at hi;exact hi
 split
 ·rename_i e
  subst e
  have hS:S[n].state=1/\T[n].road=S[n].road:=by
   rcases D.st n hn hs' with h|⟨a1,a2,a3⟩
   ·rw [<-h];exact⟨h1,rfl⟩
   rcases a3 with h|⟨h,_⟩<;>omega
  refine .inr ⟨.inl hS.1,tr.trans hS.2,.inr ⟨ts,.inl ⟨zP,h0,hh,⟨by rw [tr];exact hm.1,?_,?_⟩,?_⟩⟩⟩
  ·rw [ht];exact hm.2.1
  ·rw [ht];exact hm.2.2
  rw [ht]
 rcases D.st i hi' hs' with h|⟨a1,a2,a3⟩
 ·exact .inl h
 refine .inr ⟨a1,a2,?_⟩
 rcases a3 with h|⟨h4,h5⟩
 ·exact .inl h
 refine .inr ⟨h4,?_⟩
 rcases h5 with⟨a,b⟩|a
 ·exact .inl ⟨K_ _ (tl a (by rw [T2.kind];omega)),b⟩
 exact .inr (K_ _ (tl a (by rw [T3.kind];omega)))
theorem Dr.done1 {ka kb:Int} {S T:List SubD} {H H':List HalfD} {x:LetterD} {l m:List LetterD} (D:Dr ka kb S T H (x::l)) (k:x.kind=6) (hst:uz (roadOf x) H H') (hm:m=[]\/∃ g,m=[dU (roadOf x) g])
  (ht:∀ s∈T,s.state=2->x=gP ka kb s->(∃ h∈H,Mt h s/\h.mine=s.theirs)->m=[dU (bk s.road) s.take]):Dr ka kb S T H' (l++m):=by
 have jx:jr x=some (bk (roadOf x)):=by rw [jr,if_neg zO,if_pos (.inr k)]
 have mk:∀ y∈m,y.kind=7/\jr y=some (bk (roadOf x)):=fun y hy=>by
  rcases hm with rfl|⟨g,rfl⟩
  ·simp at hy
  rw [K1.1 hy];exact⟨rfl,Fw _ _⟩
 have nd:((l++m).filterMap jr).Nodup:=by
  rcases hm with rfl|⟨g,rfl⟩
  ·rw [Lj];exact sA D.nd
  exact AC D.nd jx (Fw _ _)
 refine⟨D.len,nd,fun y hy k4=>?_,fun y hy k5=>?_,fun n hn hs'=>?_⟩
 ·rcases K2.1 hy with hy|hy
  ·exact D.ask y (K9 _ hy) k4
  have:=(mk y hy).1;omega
 ·rcases K2.1 hy with hy|hy
  ·obtain⟨q,q1,q2,h,g1,g2,g3⟩:=D.bck y (K9 _ hy) k5
   have ne:¬ h.road=roadOf x:=fun hc=>nN D.nd jx hy (by rw [g3,sy,hc])
   obtain⟨h',e1,e2⟩:=hst h g1 ne
   exact⟨q,q1,q2,h',e1,g2.eq e2,by rw [g3,BG e2]⟩
  have:=(mk y hy).1;omega
 rcases D.st n hn hs' with h|⟨a1,a2,a3⟩
 ·exact .inl h
 refine .inr ⟨a1,a2,?_⟩
 rcases a3 with h|⟨h4,h5⟩
 ·exact .inl h
 refine .inr ⟨h4,?_⟩
 rcases h5 with⟨a,h,g1,g2,g3⟩|a
 ·rcases Lf.1 a with e|hl
  ·have:=ht _ (K0 hn) h4 e.symm ⟨h,g1,g2,g3⟩
   exact .inr (by show _∈l++m;rw [this];simp)
  have ne:¬ h.road=roadOf x:=fun hc=>nN D.nd jx hl (by rw [AB,<-hc,g2.1,ee])
  obtain⟨h',e1,e2⟩:=hst h g1 ne
  exact .inl ⟨K_ _ hl,h',e1,g2.eq e2,e2.2.2.2.1.trans g3⟩
 exact .inr (K_ _ (dY a (by rw [T3.kind];omega)))
theorem Dr.ack0 {ka kb:Int} {S T:List SubD} {H:List HalfD} {x:LetterD} {l:List LetterD} (D:Dr ka kb S T H (x::l)) (k:x.kind=7) (hx:∀ s∈T,s.state=2->¬ x=dU (bk s.road) s.take):Dr ka kb S T H l:=by
 refine⟨D.len,sA D.nd,fun y hy=>D.ask y (K9 _ hy),fun y hy=>D.bck y (K9 _ hy),fun n hn hs=>?_⟩
 rcases D.st n hn hs with h|⟨h1,h2,h3⟩
 ·exact .inl h
 refine .inr ⟨h1,h2,?_⟩
 rcases h3 with h|⟨h4,h5⟩
 ·exact .inl h
 refine .inr ⟨h4,?_⟩
 rcases h5 with⟨a,b⟩|a
 ·exact .inl ⟨dY a (by rw [T2.kind];omega),b⟩
 rcases Lf.1 a with e|hl
 ·exact absurd e.symm (hx _ (K0 hn) h4)
 exact .inr hl
theorem Dr.ack1 {ka kb:Int} {S T:List SubD} {H:List HalfD} {x:LetterD} {l:List LetterD} (ok:SuOk T) (D:Dr ka kb S T H (x::l)) (k:x.kind=7) {n:Nat} (hn:n < T.length) (h2:T[n].state=2) (hr:T[n].road=roadOf x):Dr ka kb S (T.set n { T[n] with state:=3 }) H l:=by
 have jx:jr x=some (roadOf x):=by rw [jr,if_pos (.inr k)]
 have old:∀ s∈T,s.state=1->s∈T.set n { T[n] with state:=3 }:=fun s hs h1=>by
  obtain⟨i,hi,rfl⟩:=K6 hs
  refine Ls.2 ⟨i,by rw [La];exact hi,?_⟩
  rw [Lb,if_neg (fun hc=>by subst hc;omega)]
 refine⟨by rw [La];exact D.len,sA D.nd,fun y hy k4=>?_,fun y hy k5=>?_,fun i hi hs=>?_⟩
 ·obtain⟨s,s1,s2,s3⟩:=D.ask y (K9 _ hy) k4
  exact⟨s,old s s1 s2,s2,s3⟩
 ·obtain⟨s,s1,s2,s3⟩:=D.bck y (K9 _ hy) k5
  exact⟨s,old s s1 s2,s2,s3⟩
 rw [Lb]
 have hi':i < T.length:=by rw [La] at hi;exact hi
 split
 ·rename_i e
  subst e
  have hS:(S[n].state=1\/S[n].state=2)/\T[n].road=S[n].road:=by
   rcases D.st n hn hs with h|⟨a1,a2,_⟩
   ·rw [<-h];exact⟨.inr h2,rfl⟩
   exact⟨a1,a2⟩
  exact .inr ⟨hS.1,hS.2,.inl rfl⟩
 rename_i hne
 rcases D.st i hi' hs with h|⟨a1,a2,a3⟩
 ·exact .inl h
 refine .inr ⟨a1,a2,?_⟩
 rcases a3 with h|⟨h4,h5⟩
 ·exact .inl h
 refine .inr ⟨h4,?_⟩
 rcases h5 with⟨a,b⟩|a
 ·exact .inl ⟨dY a (by rw [T2.kind];omega),b⟩
 refine .inr ?_
 rcases Lf.1 a with e|hl
 ·have:roadOf x=T[i].road:=by rw [<-e,dU,bb,ee]
  have:=Fx ok (K0 hn) (K0 hi') zO zO (hr.trans this)
  have p:=ok.pw
  rw [K5] at p
  rcases Lu i n with g|g|g
  ·rcases p i n hi' hn g with q|q|q
   ·omega
   ·omega
   exact absurd (by rw [this]) q
  ·exact absurd g.symm hne
  rcases p n i hn hi' g with q|q|q
  ·omega
  ·omega
  exact absurd (by rw [this]) q
 exact hl
theorem LV.up {p:PolicyD} {w:WorldD} {k j:Nat} (h:LV p w k) (hj:k<=j):LV p w j:=
 ⟨h.life,h.cw,⟨by have:=h.cnt.na;omega,by have:=h.cnt.nb;omega,by have:=h.cnt.da;omega,by have:=h.cnt.db;omega,fun s hs=>by have:=h.cnt.tr s hs;omega,fun s hs=>by have:=h.cnt.trb s hs;omega⟩⟩
end
end Go.Proofs.YtdiiopjaebnmfaaGreat
