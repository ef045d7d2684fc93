/-
  Texts merged for this claim by shake.py: what its proof needs.
-/
import Derived.Test.YtjghbknhneffjaaGreatZFnBaseA
import Derived.Test.YtjghbknhneffjaaGreatZFnBaseB
import Derived.Test.YtjghbknhneffjaaGreatZFnBaseC
import Derived.Test.YtjghbknhneffjaaGreatZFnBaseF
import Derived.Test.YtjghbknhneffjaaGreatZFnBaseG
import Derived.Test.YtjghbknhneffjaaGreatZFnBaseI
set_option maxHeartbeats 16000000
set_option maxRecDepth 100000
set_option linter.unusedVariables false
set_option linter.unusedSimpArgs false
namespace Go.Proofs.YtjghbknhneffjaaGreat
section
open Go.RowKit
theorem jY (e:EndD) (t:List UInt8):(aA e t).2.length<=3:=ku
theorem lf {e:EndD} {t:List UInt8} (hs:Small e):Small (cc e t).1:=by
 rw [cc];split
 ·exact⟨hs.own,hs.far,hs.subs,hs.halfs,hs.list,hs.done,hs.over⟩
 exact hs
theorem ij {e:EndD} {t:List UInt8} (hs:Small e):Small (aA e t).1:=eH (lf hs)
theorem ik {e:EndD} {m:Int} (hs:Small e):Small (bi e m).1:=by
 rw [bi];split
 ·refine⟨hs.own,hs.far,hs.subs,hs.halfs,?_,hs.done,hs.over⟩
  dsimp only
  rw [bK];split<;>exact hs.list
 exact hs
theorem dU {e:EndD} {a:AddrD} (hs:Small e):Small (az e a).1:=by
 rw [az];split
 ·exact⟨mW hs.own,hs.far,hs.subs,hs.halfs,hs.list,hs.done,hs.over⟩
 exact hs
theorem qj {e:EndD} {k:Int} (hs:Small e):Small (ks e k).1:=by
 rw [ks];split
 ·exact⟨hs.own,hs.far,by simpa only [bP,List.length_set] using hs.subs,hs.halfs,hs.list,hs.done,hs.over⟩
 exact hs
theorem nY {e:EndD} {n:Int} (hs:Small e):Small (iA e n).1:=by
 rw [iA];split
 ·rename_i h
  simp only [Du,Bool.and_eq_true] at h
  have:=(oW h.1.1).1
  exact⟨kZ hs.own,hs.far,by simpa only [ic,List.length_map] using hs.subs,hs.halfs,hs.list,by have:=jJ e.done n;dsimp only;omega,hs.over⟩
 exact hs
theorem lg {far:List AddrD}:∀ {l:List RoadD} {e:EndD},Small e->Small (dS far e l).1
 |[],_,h=>h
 |r::l,e,h=>lg (l:=l) (nk h)
theorem pc {far:List AddrD}:∀ {l:List RoadD} {e:EndD},(dS far e l).2.length<=l.length
 |[],_=>Nat.le_refl _
 |r::l,e=>by
  have h1:=ss e r (aZ far r.far)
  have h2:=pc (far:=far) (l:=l) (e:=(dz e r (aZ far r.far)).1)
  rw [show (dS far e (r::l)).2=(dz e r (aZ far r.far)).2++(dS far (dz e r (aZ far r.far)).1 l).2 from rfl,List.length_append,List.length_cons]
  omega
theorem gu {e:EndD} (hs:Small e):Small (bb e).1:=by
 rw [bb];split
 ·exact lg hs
 exact hs
theorem no (e:EndD):(bb e).2.length<=64:=by
 rw [bb];split
 ·exact Nat.le_trans pc (jW _ _)
 simp
theorem jb {e:EndD} (hs:Small e):Small (cQ e).1:=by
 have hy:=nm e.halfs (e.now+1)
 have:=hs.halfs
 rw [cQ];split
 ·split
  ·rw [bQ];exact eH ⟨hs.own,hs.far,by dsimp only;rw [List.length_map];exact hs.subs,by dsimp only [eR];omega,hs.list,hs.done,hs.over⟩
  rw [bQ];exact eH ⟨hs.own,hs.far,hs.subs,by dsimp only [eR];omega,hs.list,hs.done,hs.over⟩
 exact hs
theorem lh (e:EndD) (l:List LetterD):(bQ e l).2.length<=l.length+e.own.length+3:=by
 have h1:=jX e
 have h2:=ku (k:=3) (e:=e)
 rw [bQ]
 simp only [List.length_append]
 omega
theorem sA (e:EndD):(cQ e).2.length<=64:=by
 rw [cQ];split
 ·rename_i h
  simp only [AT,Bool.and_eq_true] at h
  have h8:=b_ h.1.1
  have h6:=xn h.1.1
  have hfl:(e.subs.flatMap (di e)).length<=e.subs.length:=lL (kw e) _
  split
  ·refine Nat.le_trans (lh _ _) ?_
   show (e.subs.flatMap (di e)).length+e.own.length+3<=64
   omega
  refine Nat.le_trans (lh _ _) ?_
  show 0+e.own.length+3<=64
  omega
 simp
structure SmallD (w:WorldD):Prop where
 p:SmallWP w
 s:SmallS w
 oa:w.a.out.text.length<=1048576
 ob:w.b.out.text.length<=1048576
theorem jc {e:EndD} {t:List UInt8} (h:e.out.text.length<=1048576):(cc e t).1.out.text.length<=1048576:=by
 rw [cc];split
 ·dsimp only
  rw [eL];split
  ·rename_i ho
   simp only [ib,Bool.and_eq_true] at ho
   have F:=gp ho.1
   have:=oY (t:=t) F
   have:=F.room
   dsimp only
   rw [List.length_append,List.length_take]
   omega
  exact h
 exact h
theorem kx {e:EndD} {m:Int} (h:SmallP e.inp):(bi e m).2.length<=1048576:=by
 have:=h.ready
 rw [bi];split
 ·dsimp only
  rw [bK];split
  ·dsimp only;rw [List.length_take];omega
  simp
 simp
theorem GoodE.io {e e':EndD} (h:GoodE e) (hs:Small e') (hi:e'.inp=e.inp) (ho:e'.out.text=e.out.text):GoodE e':=⟨hs,by rw [hi];exact h.p,by rw [ho];exact h.o⟩
theorem uJ {k:Nat} {e:EndD} (h:GoodE e):GoodE (cu k e).1:=h.io (eH h.s) iB gs
theorem xo (e:EndD) (t:List UInt8):(cc e t).1.inp=e.inp:=by rw [cc];split<;>rfl
theorem nZ {e:EndD} {t:List UInt8} (h:GoodE e):GoodE (aA e t).1:=by
 rw [aA]
 exact uJ ⟨lf h.s,by rw [xo];exact h.p,jc h.o⟩
theorem uK {p:PiecesD} {m:Int} (h:SmallP p):SmallP (bK p m).1:=by
 rw [bK];split
 ·exact⟨h.list,by have:=h.ready;simp only [List.length_drop];omega,h.texts⟩
 exact h
theorem uL {e:EndD} {m:Int} (h:GoodE e):GoodE (bi e m).1:=by
 have hs:=ik (m:=m) h.s
 rw [bi] at hs⊢;split at hs
 ·rename_i hk;rw [if_pos hk];exact⟨hs,uK h.p,h.o⟩
 rename_i hk;rw [if_neg hk];exact h
theorem pd (o:OutD):(fi o).text=o.text:=by rw [fi];split<;>rfl
theorem xp {e:EndD} (h:GoodE e):GoodE (cQ e).1:=by
 have hs:=jb h.s
 refine h.io hs ?_ ?_
 ·rw [cQ];split
  ·split
   ·rw [bQ];exact iB
   rw [bQ];exact iB
  rfl
 rw [cQ];split
 ·split
  ·rw [bQ];exact gs.trans (pd _)
  rw [bQ];exact gs.trans (pd _)
 rfl
theorem AZ (e:EndD) (r:RoadD) (b:Bool):(dz e r b).1.inp=e.inp/\(dz e r b).1.out=e.out:=by rw [dz];split<;>exact⟨rfl,rfl⟩
theorem sB {far:List AddrD}:∀ {l:List RoadD} {e:EndD},(dS far e l).1.inp=e.inp/\(dS far e l).1.out=e.out
 |[],e=>⟨rfl,rfl⟩
 |r::l,e=>by
  have h1:=AZ e r (aZ far r.far)
  have h2:=sB (far:=far) (l:=l) (e:=(dz e r (aZ far r.far)).1)
  exact⟨h2.1.trans h1.1,h2.2.trans h1.2⟩
theorem sC {e:EndD} (h:GoodE e):GoodE (bb e).1:=by
 have hs:=gu h.s
 have hio:(bb e).1.inp=e.inp/\(bb e).1.out=e.out:=by
  rw [bb];split
  ·exact sB
  exact⟨rfl,rfl⟩
 exact h.io hs hio.1 (by rw [hio.2])
theorem sD {e:EndD} {a:AddrD} (h:GoodE e):GoodE (az e a).1:=by
 refine h.io (dU h.s) ?_ ?_<;>(rw [az];split<;>rfl)
theorem sE {e:EndD} {k:Int} (h:GoodE e):GoodE (ks e k).1:=by
 refine h.io (qj h.s) ?_ ?_<;>(rw [ks];split<;>rfl)
theorem qk {e:EndD} {n:Int} (h:GoodE e):GoodE (iA e n).1:=by
 refine h.io (nY h.s) ?_ ?_<;>(rw [iA];split<;>rfl)
theorem xq {e:EndD} {a:ActD} (h:GoodE e):GoodE (ie e a).1:=by
 rw [ie]
 split
 ·exact nZ h
 split
 ·exact uL h
 split
 ·exact xp h
 split
 ·exact sC h
 split
 ·exact sD h
 split
 ·exact qk h
 exact sE h
structure GoodW (w:WorldD) (k:Nat):Prop where
 a:GoodE w.a
 b:GoodE w.b
 r:SmallP2 w
 wa:w.wroteA.length<=2000000*k
 wb:w.wroteB.length<=2000000*k
 ra:w.readA.length<=2000000*k
 rb:w.readB.length<=2000000*k
theorem GoodW.s {w:WorldD} {k:Nat} (h:GoodW w k):SmallW w:=⟨h.a.s,h.b.s,h.r.bag,h.r.past,h.r.keys,h.r.tags,h.r.nums,h.r.ansA,h.r.ansB⟩
theorem GoodW.d {w:WorldD} {k:Nat} (h:GoodW w k) (hk:k<=1000):SmallD w:=
 ⟨⟨h.s,h.a.p,h.b.p⟩,⟨by have:=h.wa;omega,by have:=h.wb;omega,by have:=h.ra;omega,by have:=h.rb;omega⟩,h.a.o,h.b.o⟩
theorem GoodW.up {w:WorldD} {k:Nat} (h:GoodW w k):GoodW w (k+1):=⟨h.a,h.b,h.r,by have:=h.wa;omega,by have:=h.wb;omega,by have:=h.ra;omega,by have:=h.rb;omega⟩
theorem li {side:Int}:∀ {l:List LetterD} {w:WorldD},(an side w l).a=w.a/\(an side w l).b=w.b/\(an side w l).wroteA=w.wroteA/\(an side w l).wroteB=w.wroteB/\(an side w l).readA=w.readA/\(an side w l).readB=w.readB
 |[],w=>⟨rfl,rfl,rfl,rfl,rfl,rfl⟩
 |x::l,w=>by
  obtain⟨h1,h2,h3,h4,h5,h6⟩:=li (side:=side) (l:=l) (w:=cn side w x)
  obtain⟨g1,g2,g3,g4,g5,g6⟩:=gm (side:=side) (w:=w) (x:=x)
  exact⟨h1.trans g1,h2.trans g2,h3.trans g3,h4.trans g4,h5.trans g5,h6.trans g6⟩
theorem nq {side:Int} {l:List LetterD} {w:WorldD} {k:Nat} (h:GoodW w k):GoodW (an side w l) k:=by
 obtain⟨h1,h2,h3,h4,h5,h6⟩:=li (side:=side) (l:=l) (w:=w)
 exact⟨by rw [h1];exact h.a,by rw [h2];exact h.b,kY h.r,by rw [h3];exact h.wa,by rw [h4];exact h.wb,by rw [h5];exact h.ra,by rw [h6];exact h.rb⟩
theorem lj {w:WorldD} {s:Int} {e:EndD} {k:Nat} (h:GoodW w k) (he:GoodE e):GoodW (cq w s e) k:=by
 unfold cq;split
 ·exact⟨he,h.b,⟨h.r.bag,h.r.past,h.r.keys,h.r.tags,h.r.nums,h.r.ansA,h.r.ansB⟩,h.wa,h.wb,h.ra,h.rb⟩
 exact⟨h.a,he,⟨h.r.bag,h.r.past,h.r.keys,h.r.tags,h.r.nums,h.r.ansA,h.r.ansB⟩,h.wa,h.wb,h.ra,h.rb⟩
theorem ql:GoodE dw:=⟨⟨by decide,by decide,by decide,by decide,by decide,by decide,by decide⟩,⟨by decide,by decide,fun x hx=>by simp [dw] at hx⟩,by decide⟩
theorem jd {w:WorldD} {s:Int} {k:Nat} (h:GoodW w k):GoodE (bB w s):=by
 unfold bB;repeat' split
 ·exact h.a
 ·exact h.b
 exact ql
theorem sF {side:Int} {l:List LetterD} {w:WorldD} {k:Nat} (h:GoodW w k):GoodW (qe w side l) k:=by
 rw [qe];split
 ·exact nq h
 exact h
theorem uM {w:WorldD} {x:LetterD} {k:Nat} (h:GoodW w k):GoodW (eF w x) k:=by
 rw [eF];split
 ·exact h
 exact sF (lj h (w5 (jd h)))
theorem nr {w:WorldD} {b:List LetterD} {k:Nat} (h:GoodW w k) (hb:b.length<=1048576):GoodW { w with bag:=b } k:=
 ⟨h.a,h.b,⟨hb,h.r.past,h.r.keys,h.r.tags,h.r.nums,h.r.ansA,h.r.ansB⟩,h.wa,h.wb,h.ra,h.rb⟩
theorem uN (l:List LetterD) (n:Int) (h:l.length<=1048576):(fF l n).length<=1048576:=by
 simp only [fF,List.length_append,List.length_take,List.length_drop];omega
theorem xr {w:WorldD} {a:ActD} {k:Nat} (h:GoodW w k) (ha:a.text.length<=1048576):GoodW (gD w a) (k+1):=by
 have hr:=kx (m:=a.many) (jd (s:=a.side) h).p
 have h1:=h.wa
 have h2:=h.wb
 have h3:=h.ra
 have h4:=h.rb
 have hu:=h.up
 unfold gD dT bR;repeat' split
 ·exact⟨h.a,h.b,⟨h.r.bag,h.r.past,h.r.keys,h.r.tags,h.r.nums,h.r.ansA,h.r.ansB⟩,by simp only [List.length_append,List.length_take];omega,hu.wb,hu.ra,hu.rb⟩
 ·exact⟨h.a,h.b,⟨h.r.bag,h.r.past,h.r.keys,h.r.tags,h.r.nums,h.r.ansA,h.r.ansB⟩,hu.wa,by simp only [List.length_append,List.length_take];omega,hu.ra,hu.rb⟩
 ·exact⟨h.a,h.b,⟨h.r.bag,h.r.past,h.r.keys,h.r.tags,h.r.nums,h.r.ansA,h.r.ansB⟩,hu.wa,hu.wb,by simp only [List.length_append];omega,hu.rb⟩
 ·exact⟨h.a,h.b,⟨h.r.bag,h.r.past,h.r.keys,h.r.tags,h.r.nums,h.r.ansA,h.r.ansB⟩,hu.wa,hu.wb,hu.ra,by simp only [List.length_append];omega⟩
 exact hu
theorem B5 {w:WorldD} {a:ActD} {k:Nat} (h:GoodW w k) (ha:a.text.length<=1048576):GoodW (iP w a).1 (k+1):=by
 have hb:=uN w.bag a.pos h.r.bag
 have hl:=h.r.bag
 unfold iP;split
 ·split
  ·unfold eX;split
   ·exact h.up
   exact nq (lj (xr h ha) (xq (jd h)))
  unfold ce;repeat' split
  all_goals first
   |exact h.up
   |exact (uM (nr h hb)).up
   |exact (nr h hb).up
   |exact (nr h (by simp only [List.length_append,List.length_singleton];omega)).up
 exact h.up
end
end Go.Proofs.YtjghbknhneffjaaGreat
