/-
  Texts merged for this claim by shake.py: what its proof needs.
-/
import Derived.Test.YtjghbknhneffjaaGreatZFnBaseL
import Derived.Test.YtjghbknhneffjaaGreatZFnBaseM
import Derived.Test.YtjghbknhneffjaaGreatZFnBaseN
import Derived.Test.YtjghbknhneffjaaGreatZFnCarriedA
import Derived.Test.YtjghbknhneffjaaGreatZFnCarriedB
import Derived.Test.YtjghbknhneffjaaGreatZFnCarriedC
import Derived.Test.YtjghbknhneffjaaGreatZFnCarriedD
set_option maxHeartbeats 16000000
set_option maxRecDepth 100000
set_option linter.unusedVariables false
set_option linter.unusedSimpArgs false
namespace Go.Proofs.YtjghbknhneffjaaGreat
section
open Go.RowKit
end
section
open Go.RowKit
section
variable {P:Program} {β:Be} {s:S} {a:Act} {w:World} {o:Oper} {r:OpR} {ty:TypeId}
end
end
section
open Go.RowKit
end
section
end
section
end
section
open Go.RowKit
theorem Fi (w:WorldD) (pos many:Int) (text:List UInt8) (ad:AddrD) (le:LetterD) (hw:SmallD w) (htx:text.length<=1048576):
  aP 169 [.ag (w.cs 0),.ag (ActD.cs ⟨6,1,pos,many,text,ad,le⟩)] (w.hp false) (.tu [.ag (WorldD.cs (an 1 { w with a:=(iA w.a pos).1 } (iA w.a pos).2) 21),.sc (.int .i64 0)]) (w.hp false++WorldD.hp (an 1 { w with a:=(iA w.a pos).1 } (iA w.a pos).2) true):=by
 have hX:=v8 w.a pos hw.p.s.a
 have hsm:=nY (n:=pos) hw.p.s.a
 have hlen:=r6 w.a pos hw.p.s.a
 have hEA:aP 74 [.ag (w.cs 0),.sc (.int .i64 1)] (w.hp false) (.ag (w.a.cs 21)) (w.hp false++w.a.hp true):=bq w 1 hw.p.s.a.own hw.p.s.a.far hw.p.s.a.subs hw.p.s.a.halfs hw.p.s.a.list hw.p.s.a.done hw.p.s.a.over hw.p.s.b.own hw.p.s.b.far hw.p.s.b.subs hw.p.s.b.halfs hw.p.s.b.list hw.p.s.b.done hw.p.s.b.over
 obtain⟨pr,hpr⟩:∃ p,p=iA w.a pos:=⟨_,rfl⟩
 rw [<-hpr] at hX hsm hlen⊢
 obtain⟨e1,l1⟩:=pr
 dsimp only at hX hsm hlen⊢
 have hset:=dc w e1
 have hpost:=df { w with a:=e1 } l1 ⟨hsm,hw.p.s.b,hw.p.s.bag,hw.p.s.past,hw.p.s.keys,hw.p.s.tags,hw.p.s.nums,hw.p.s.ansA,hw.p.s.ansB⟩ (by first|omega|simp)
 have hends:=ba (side:=1) (l:=l1) (w:={ w with a:=e1 })
 obtain⟨R,hR⟩:∃ R,R=an 1 { w with a:=e1 } l1:=⟨_,rfl⟩
 rw [<-hR] at hpost hends⊢
 clear hR
 obtain⟨ra,rb,bag,past,wA,wB,rA,rB,known,nums,nsA,nsB⟩:=R
 obtain⟨keys,tags⟩:=known
 dsimp only at hends
 obtain⟨g1,g2,g3,g4,g5,g6⟩:=hends
 replace g1:=g1.symm
 replace g2:=g2.symm
 replace g3:=g3.symm
 replace g4:=g4.symm
 replace g5:=g5.symm
 replace g6:=g6.symm
 subst g1 g2 g3 g4 g5 g6
 refine gU Tryz.func169 Tryz.ntmps169 Tryz.results169 fun E hE=>?_
 refine qK (hEA) (qI 0 21) ?_
 refine qK (hX) (qI 24 7) ?_
 refine qD [0,1,2,3,5,6,7,4,8,9,10] ?_
 refine aQ (hset) (qI 0 21++qI 33 7) ?_
 refine aQ (hpost) (qI 33 7++qI 7 14++qI 40 1) ?_
 refine qG ?_
 exact dk (qI 0 21++qI 41 21)
theorem Fj (w:WorldD) (pos many:Int) (text:List UInt8) (ad:AddrD) (le:LetterD) (hw:SmallD w) (htx:text.length<=1048576):
  aP 169 [.ag (w.cs 0),.ag (ActD.cs ⟨7,1,pos,many,text,ad,le⟩)] (w.hp false) (.tu [.ag (WorldD.cs (an 1 { w with a:=(ks w.a pos).1 } (ks w.a pos).2) 21),.sc (.int .i64 0)]) (w.hp false++WorldD.hp (an 1 { w with a:=(ks w.a pos).1 } (ks w.a pos).2) true):=by
 have hX:=Fh w.a pos hw.p.s.a
 have hsm:=qj (k:=pos) hw.p.s.a
 have hlen:=s7 w.a pos
 have hEA:aP 74 [.ag (w.cs 0),.sc (.int .i64 1)] (w.hp false) (.ag (w.a.cs 21)) (w.hp false++w.a.hp true):=bq w 1 hw.p.s.a.own hw.p.s.a.far hw.p.s.a.subs hw.p.s.a.halfs hw.p.s.a.list hw.p.s.a.done hw.p.s.a.over hw.p.s.b.own hw.p.s.b.far hw.p.s.b.subs hw.p.s.b.halfs hw.p.s.b.list hw.p.s.b.done hw.p.s.b.over
 obtain⟨pr,hpr⟩:∃ p,p=ks w.a pos:=⟨_,rfl⟩
 rw [<-hpr] at hX hsm hlen⊢
 obtain⟨e1,l1⟩:=pr
 dsimp only at hX hsm hlen⊢
 have hset:=dc w e1
 have hpost:=df { w with a:=e1 } l1 ⟨hsm,hw.p.s.b,hw.p.s.bag,hw.p.s.past,hw.p.s.keys,hw.p.s.tags,hw.p.s.nums,hw.p.s.ansA,hw.p.s.ansB⟩ (by first|omega|simp)
 have hends:=ba (side:=1) (l:=l1) (w:={ w with a:=e1 })
 obtain⟨R,hR⟩:∃ R,R=an 1 { w with a:=e1 } l1:=⟨_,rfl⟩
 rw [<-hR] at hpost hends⊢
 clear hR
 obtain⟨ra,rb,bag,past,wA,wB,rA,rB,known,nums,nsA,nsB⟩:=R
 obtain⟨keys,tags⟩:=known
 dsimp only at hends
 obtain⟨g1,g2,g3,g4,g5,g6⟩:=hends
 replace g1:=g1.symm
 replace g2:=g2.symm
 replace g3:=g3.symm
 replace g4:=g4.symm
 replace g5:=g5.symm
 replace g6:=g6.symm
 subst g1 g2 g3 g4 g5 g6
 refine gU Tryz.func169 Tryz.ntmps169 Tryz.results169 fun E hE=>?_
 refine qK (hEA) (qI 0 21) ?_
 refine qK (hX) (qI 24 7) ?_
 refine qD [0,1,2,3,5,6,7,4,8,9,10] ?_
 refine aQ (hset) (qI 0 21++qI 33 7) ?_
 refine aQ (hpost) (qI 33 7++qI 7 14++qI 40 1) ?_
 refine qG ?_
 exact dk (qI 0 21++qI 41 21)
theorem Fk (w:WorldD) (pos many:Int) (text:List UInt8) (ad:AddrD) (le:LetterD) (hw:SmallD w) (htx:text.length<=1048576):
  aP 169 [.ag (w.cs 0),.ag (ActD.cs ⟨6,2,pos,many,text,ad,le⟩)] (w.hp false) (.tu [.ag (WorldD.cs (an 2 { w with b:=(iA w.b pos).1 } (iA w.b pos).2) 21),.sc (.int .i64 0)]) (w.hp false++WorldD.hp (an 2 { w with b:=(iA w.b pos).1 } (iA w.b pos).2) true):=by
 have hX:=v8 w.b pos hw.p.s.b
 have hsm:=nY (n:=pos) hw.p.s.b
 have hlen:=r6 w.b pos hw.p.s.b
 have hEA:aP 74 [.ag (w.cs 0),.sc (.int .i64 2)] (w.hp false) (.ag (w.b.cs 21)) (w.hp false++w.b.hp true):=bq w 2 hw.p.s.a.own hw.p.s.a.far hw.p.s.a.subs hw.p.s.a.halfs hw.p.s.a.list hw.p.s.a.done hw.p.s.a.over hw.p.s.b.own hw.p.s.b.far hw.p.s.b.subs hw.p.s.b.halfs hw.p.s.b.list hw.p.s.b.done hw.p.s.b.over
 obtain⟨pr,hpr⟩:∃ p,p=iA w.b pos:=⟨_,rfl⟩
 rw [<-hpr] at hX hsm hlen⊢
 obtain⟨e1,l1⟩:=pr
 dsimp only at hX hsm hlen⊢
 have hset:=de w e1
 have hpost:=dg { w with b:=e1 } l1 ⟨hw.p.s.a,hsm,hw.p.s.bag,hw.p.s.past,hw.p.s.keys,hw.p.s.tags,hw.p.s.nums,hw.p.s.ansA,hw.p.s.ansB⟩ (by first|omega|simp)
 have hends:=ba (side:=2) (l:=l1) (w:={ w with b:=e1 })
 obtain⟨R,hR⟩:∃ R,R=an 2 { w with b:=e1 } l1:=⟨_,rfl⟩
 rw [<-hR] at hpost hends⊢
 clear hR
 obtain⟨ra,rb,bag,past,wA,wB,rA,rB,known,nums,nsA,nsB⟩:=R
 obtain⟨keys,tags⟩:=known
 dsimp only at hends
 obtain⟨g1,g2,g3,g4,g5,g6⟩:=hends
 replace g1:=g1.symm
 replace g2:=g2.symm
 replace g3:=g3.symm
 replace g4:=g4.symm
 replace g5:=g5.symm
 replace g6:=g6.symm
 subst g1 g2 g3 g4 g5 g6
 refine gU Tryz.func169 Tryz.ntmps169 Tryz.results169 fun E hE=>?_
 refine qK (hEA) (qI 0 21) ?_
 refine qK (hX) (qI 24 7) ?_
 refine qD [0,1,2,3,5,6,7,4,8,9,10] ?_
 refine aQ (hset) (qI 0 21++qI 33 7) ?_
 refine aQ (hpost) (qI 0 7++qI 33 7++qI 14 7++qI 40 1) ?_
 refine qG ?_
 exact dk (qI 0 21++qI 41 21)
theorem Fl (w:WorldD) (pos many:Int) (text:List UInt8) (ad:AddrD) (le:LetterD) (hw:SmallD w) (htx:text.length<=1048576):
  aP 169 [.ag (w.cs 0),.ag (ActD.cs ⟨7,2,pos,many,text,ad,le⟩)] (w.hp false) (.tu [.ag (WorldD.cs (an 2 { w with b:=(ks w.b pos).1 } (ks w.b pos).2) 21),.sc (.int .i64 0)]) (w.hp false++WorldD.hp (an 2 { w with b:=(ks w.b pos).1 } (ks w.b pos).2) true):=by
 have hX:=Fh w.b pos hw.p.s.b
 have hsm:=qj (k:=pos) hw.p.s.b
 have hlen:=s7 w.b pos
 have hEA:aP 74 [.ag (w.cs 0),.sc (.int .i64 2)] (w.hp false) (.ag (w.b.cs 21)) (w.hp false++w.b.hp true):=bq w 2 hw.p.s.a.own hw.p.s.a.far hw.p.s.a.subs hw.p.s.a.halfs hw.p.s.a.list hw.p.s.a.done hw.p.s.a.over hw.p.s.b.own hw.p.s.b.far hw.p.s.b.subs hw.p.s.b.halfs hw.p.s.b.list hw.p.s.b.done hw.p.s.b.over
 obtain⟨pr,hpr⟩:∃ p,p=ks w.b pos:=⟨_,rfl⟩
 rw [<-hpr] at hX hsm hlen⊢
 obtain⟨e1,l1⟩:=pr
 dsimp only at hX hsm hlen⊢
 have hset:=de w e1
 have hpost:=dg { w with b:=e1 } l1 ⟨hw.p.s.a,hsm,hw.p.s.bag,hw.p.s.past,hw.p.s.keys,hw.p.s.tags,hw.p.s.nums,hw.p.s.ansA,hw.p.s.ansB⟩ (by first|omega|simp)
 have hends:=ba (side:=2) (l:=l1) (w:={ w with b:=e1 })
 obtain⟨R,hR⟩:∃ R,R=an 2 { w with b:=e1 } l1:=⟨_,rfl⟩
 rw [<-hR] at hpost hends⊢
 clear hR
 obtain⟨ra,rb,bag,past,wA,wB,rA,rB,known,nums,nsA,nsB⟩:=R
 obtain⟨keys,tags⟩:=known
 dsimp only at hends
 obtain⟨g1,g2,g3,g4,g5,g6⟩:=hends
 replace g1:=g1.symm
 replace g2:=g2.symm
 replace g3:=g3.symm
 replace g4:=g4.symm
 replace g5:=g5.symm
 replace g6:=g6.symm
 subst g1 g2 g3 g4 g5 g6
 refine gU Tryz.func169 Tryz.ntmps169 Tryz.results169 fun E hE=>?_
 refine qK (hEA) (qI 0 21) ?_
 refine qK (hX) (qI 24 7) ?_
 refine qD [0,1,2,3,5,6,7,4,8,9,10] ?_
 refine aQ (hset) (qI 0 21++qI 33 7) ?_
 refine aQ (hpost) (qI 0 7++qI 33 7++qI 14 7++qI 40 1) ?_
 refine qG ?_
 exact dk (qI 0 21++qI 41 21)
theorem GU {w:WorldD} {pos many:Int} {text:List UInt8} {ad:AddrD} {le:LetterD}:eX w ⟨6,1,pos,many,text,ad,le⟩=(an 1 { w with a:=(iA w.a pos).1 } (iA w.a pos).2,0):=by
 simp [eX,dl,gD,ie,bB,cq,dT,bR]
theorem GV {w:WorldD} {pos many:Int} {text:List UInt8} {ad:AddrD} {le:LetterD}:eX w ⟨7,1,pos,many,text,ad,le⟩=(an 1 { w with a:=(ks w.a pos).1 } (ks w.a pos).2,0):=by
 simp [eX,dl,gD,ie,bB,cq,dT,bR]
theorem GW {w:WorldD} {pos many:Int} {text:List UInt8} {ad:AddrD} {le:LetterD}:eX w ⟨6,2,pos,many,text,ad,le⟩=(an 2 { w with b:=(iA w.b pos).1 } (iA w.b pos).2,0):=by
 simp [eX,dl,gD,ie,bB,cq,dT,bR]
theorem GX {w:WorldD} {pos many:Int} {text:List UInt8} {ad:AddrD} {le:LetterD}:eX w ⟨7,2,pos,many,text,ad,le⟩=(an 2 { w with b:=(ks w.b pos).1 } (ks w.b pos).2,0):=by
 simp [eX,dl,gD,ie,bB,cq,dT,bR]
theorem Gp (w:WorldD) (a:ActD) (hw:SmallD w) (ha:cO a=true) (h7:a.kind<=7) (hb:¬ dl w a=true):
  aP 169 [.ag (w.cs 0),.ag a.cs] (w.hp false) (.tu [.ag ((eX w a).1.cs 21),.sc (.int .i64 (eX w a).2)]) (w.hp false++(eX w a).1.hp true):=by
 obtain⟨k1,k2,k3,k4,k5,k6⟩:=lk ha
 obtain⟨kind,side,pos,many,text,ad,le⟩:=a
 dsimp only at*
 have hs:side=1\/side=2:=by omega
 have hk:kind=1\/kind=2\/kind=3\/kind=4\/kind=5\/kind=6\/kind=7:=by omega
 clear ha k1 k2 k3 k4 h7
 rcases hs with rfl|rfl<;>rcases hk with rfl|rfl|rfl|rfl|rfl|rfl|rfl
 ·rw [DQ];exact zy w pos many text ad le hw k6
 ·rw [DR];exact zz w pos many text ad le hw k6
 ·rw [DS];exact zG w pos many text ad le hw k6
 ·rw [DT];exact zA w pos many text ad le hw k6
 ·have hb:sideAt ad.addr=1/\(az w.a ad).2=true:=by
   by_cases h0:sideAt ad.addr=1<;>cases h1:(az w.a ad).2<;>simp [dl,bB,h0,h1] at hb<;>exact⟨h0,rfl⟩
  rw [DU hb.1 hb.2];exact zB w pos many text ad le hw k6 hb.1 hb.2
 ·rw [GU];exact Fi w pos many text ad le hw k6
 ·rw [GV];exact Fj w pos many text ad le hw k6
 ·rw [DV];exact zC w pos many text ad le hw k6
 ·rw [DW];exact zD w pos many text ad le hw k6
 ·rw [DX];exact zH w pos many text ad le hw k6
 ·rw [DY];exact zE w pos many text ad le hw k6
 ·have hb:sideAt ad.addr=2/\(az w.b ad).2=true:=by
   by_cases h0:sideAt ad.addr=2<;>cases h1:(az w.b ad).2<;>simp [dl,bB,h0,h1] at hb<;>exact⟨h0,rfl⟩
  rw [DZ hb.1 hb.2];exact zF w pos many text ad le hw k6 hb.1 hb.2
 ·rw [GW];exact Fk w pos many text ad le hw k6
 rw [GX];exact Fl w pos many text ad le hw k6
theorem Hd (w:WorldD) (a:ActD) (hw:SmallD w):aP 88 [.ag (w.cs 0),.ag a.cs] (w.hp false) (.tu [.ag ((iP w a).1.cs 21),.sc (.int .i64 (iP w a).2)]) (w.hp false++(iP w a).1.hp true):=by
 have hC:=gi w hw.p.s
 have hA:=B8 a
 have hI:=ak a.kind 1 7
 cases hok:cO a with
 |false=>
  rw [show iP w a=(w,3) from by rw [iP,if_neg (by simp [hok])]]
  rw [hok] at hA
  dsimp only
  refine qE Tryz.func88 Tryz.ntmps88 Tryz.results88 fun E hE=>?_
  refine qK (hC) (qI 0 21) ?_
  refine qK (hA) [] ?_
  exact qF (qI 0 21++qI 24 21)
 |true=>
  rw [hok] at hA
  obtain⟨k1,k2,k3,k4,k5,k6⟩:=lk hok
  by_cases h7:a.kind<=7
  ·rw [show iP w a=eX w a from by rw [iP,if_pos hok,if_pos h7]]
   have hin:bj a.kind 1 7=true:=by simp only [bj,Bool.and_eq_true,decide_eq_true_eq];omega
   rw [hin] at hI
   by_cases hb:dl w a=true
   ·have hQ:=A0 w a hw hok hb
    rw [DC hb]
    dsimp only
    refine qE Tryz.func88 Tryz.ntmps88 Tryz.results88 fun E hE=>?_
    refine qK (hC) (qI 0 21) ?_
    refine qK (hA) [] ?_
    refine qK (hI) [] ?_
    refine qK (hQ) (qI 24 21) ?_
    exact qF (qI 0 21++qI 45 21)
   have hQ:=Gp w a hw hok h7 hb
   obtain⟨R,hR⟩:∃ R,R=eX w a:=⟨_,rfl⟩
   rw [<-hR] at hQ⊢
   clear hR
   obtain⟨r,c⟩:=R
   dsimp only at hQ⊢
   refine qE Tryz.func88 Tryz.ntmps88 Tryz.results88 fun E hE=>?_
   refine qK (hC) (qI 0 21) ?_
   refine qK (hA) [] ?_
   refine qK (hI) [] ?_
   refine qK (hQ) (qI 24 21) ?_
   exact qF (qI 0 21++qI 45 21)
  rw [show iP w a=ce w a from by rw [iP,if_pos hok,if_neg h7]]
  have hin:bj a.kind 1 7=false:=by simp only [bj,Bool.and_eq_false_iff,decide_eq_false_iff_not];omega
  rw [hin] at hI
  by_cases h10:a.kind<=10
  ·have hQ:=Bl w a hw hok h7 h10
   obtain⟨R,hR⟩:∃ R,R=ce w a:=⟨_,rfl⟩
   rw [<-hR] at hQ⊢
   clear hR
   obtain⟨r,c⟩:=R
   dsimp only at hQ⊢
   refine qE Tryz.func88 Tryz.ntmps88 Tryz.results88 fun E hE=>?_
   refine qK (hC) (qI 0 21) ?_
   refine qK (hA) [] ?_
   refine qK (hI) [] ?_
   refine qK (hQ) (qI 24 21) ?_
   exact qF (qI 0 21++qI 46 21)
  obtain⟨kind,side,pos,many,text,ad,le⟩:=a
  dsimp only at*
  have hbag:=hw.p.s.bag
  have hpast:=hw.p.s.past
  have hk:kind=11\/kind=12:=by omega
  clear h7 h10 k1 k2 hok
  rcases hk with rfl|rfl
  ·have hM:=Ff w le hw.p.s.keys hw.p.s.tags hw.p.s.nums
   cases hm:xa w le with
   |false=>
    rw [Hw hm]
    rw [hm] at hM
    dsimp only
    refine qE Tryz.func88 Tryz.ntmps88 Tryz.results88 fun E hE=>?_
    refine qK (hC) (qI 0 21) ?_
    refine qK (hA) [] ?_
    refine qK (hI) [] ?_
    refine qK (hM) (qI 24 21) ?_
    exact qF (qI 0 21++qI 24 21)
   |true=>
    rw [hm] at hM
    by_cases h4:40<=w.bag.length
    ·rw [Hx hm h4]
     dsimp only
     refine qE Tryz.func88 Tryz.ntmps88 Tryz.results88 fun E hE=>?_
     refine qK (hC) (qI 0 21) ?_
     refine qK (hA) [] ?_
     refine qK (hI) [] ?_
     refine qK (hM) (qI 24 21) ?_
     exact qF (qI 0 21++qI 24 21)
    rw [Hy hm h4]
    dsimp only
    refine qE Tryz.func88 Tryz.ntmps88 Tryz.results88 fun E hE=>?_
    refine qK (hC) (qI 0 21) ?_
    refine qK (hA) [] ?_
    refine qK (hI) [] ?_
    refine qK (hM) (qI 24 21) ?_
    refine qJ (qI 0 21++qI 24 14++qI 47 1++qI 39 6) ?_
    simp [LetterD.cs]
  obtain⟨p,rfl⟩:=Int.eq_ofNat_of_zero_le k5
  by_cases hp:p < w.past.length
  ·have hx:=aT (enc:=LetterD.cs) hp
   have hq1:= @HA w side many p text ad le hp
   have hq2:= @HC w side many p text ad le hp
   obtain⟨R,hR⟩:∃ R,R=ce w ⟨12,side,(p:Nat),many,text,ad,le⟩:=⟨_,rfl⟩
   change _=ce w _ at hR
   rw [<-hR] at hq1 hq2
   try rw [<-hR]
   clear hR
   generalize hxx:w.past[p]=x at*
   have hS:=cV x.to
   generalize sideAt x.to=sd at*
   by_cases h0:sd=0
   ·rw [hq1 (.inl h0)]
    dsimp only
    refine qE Tryz.func88 Tryz.ntmps88 Tryz.results88 fun E hE=>?_
    refine qK (hC) (qI 0 21) ?_
    refine qK (hA) [] ?_
    refine qK (hI) [] ?_
    try simp (disch:=omega) only [go_sem,seval,hx,hxx]
    refine qK (hS) [] ?_
    exact qF (qI 0 21++qI 24 21)
   by_cases h4:40<=w.bag.length
   ·rw [hq1 (.inr h4)]
    dsimp only
    refine qE Tryz.func88 Tryz.ntmps88 Tryz.results88 fun E hE=>?_
    refine qK (hC) (qI 0 21) ?_
    refine qK (hA) [] ?_
    refine qK (hI) [] ?_
    try simp (disch:=omega) only [go_sem,seval,hx,hxx]
    refine qK (hS) [] ?_
    exact qF (qI 0 21++qI 24 21)
   rw [hq2 h0 h4]
   dsimp only
   refine qE Tryz.func88 Tryz.ntmps88 Tryz.results88 fun E hE=>?_
   refine qK (hC) (qI 0 21) ?_
   refine qK (hA) [] ?_
   refine qK (hI) [] ?_
   try simp (disch:=omega) only [go_sem,seval,hx,hxx]
   refine qK (hS) [] ?_
   refine qX ?_
   refine qJ (qI 0 21++qI 24 14++qI 47 1++qI 39 6) ?_
   simp [LetterD.cs]
  rw [Hz hp]
  dsimp only
  refine qE Tryz.func88 Tryz.ntmps88 Tryz.results88 fun E hE=>?_
  refine qK (hC) (qI 0 21) ?_
  refine qK (hA) [] ?_
  refine qK (hI) [] ?_
  exact qF (qI 0 21++qI 24 21)
structure Fine0 (w:WorldD):Prop where
 g:GoodW w 0
 f:FewW w
 bag:w.bag=[]
 past:w.past=[]
 tags:w.known.tags=[]
 st:Start w
 s2:Start2 w
theorem I1 (p:PolicyD) (hp:p∈Er):∃ w:WorldD,Fine0 w/\aP 87 [.ag p.cs] [] (.tu [.ag (w.cs 0),.sc (.bo true)]) (w.hp true):=by
 have h1:=Bh 1 11 p
 have h2:=Bh 2 21 p
 have i1:=Jh (s:=1) (by omega) hp
 have i2:=Jh (s:=2) (by omega) hp
 rw [show (10*1+1:Int)=11 from rfl] at i1
 rw [show (10*2+1:Int)=21 from rfl] at i2
 rw [i1] at h1
 rw [i2] at h2
 have hm:=List.all_eq_true.1 Jt p hp
 simp only [Bool.and_eq_true] at hm
 obtain⟨⟨⟨m1,m2⟩,m3⟩,m4⟩:=hm
 have hM:=Ci (EO 1 p) (EO 2 p) (t8 m1) (t8 m2)
 have hst:=List.all_eq_true.1 Ju p hp
 have hs2:=List.all_eq_true.1 Ji p hp
 obtain⟨g1,f1⟩:=Bm m3
 obtain⟨g2,f2⟩:=Bm m4
 clear i1 i2 m1 m2 m3 m4
 generalize EO 1 p=a at*
 generalize EO 2 p=c at*
 obtain⟨M,hMM⟩:∃ M,M=pX a c:=⟨_,rfl⟩
 rw [<-hMM] at hM g1 f1 g2 f2 hst hs2
 clear hMM
 obtain⟨X,Y,ok⟩:=M
 dsimp only at hM g1 f1 g2 f2 hst hs2
 simp only [Bool.and_eq_true,decide_eq_true_eq] at hs2
 obtain⟨⟨e1,e2⟩,e3⟩:=hs2
 refine⟨EM X Y,⟨⟨g1,g2,⟨by simp [EM],by simp [EM],by simp [EM],by simp [EM],by simp [EM],by simp [EM],by simp [EM]⟩,by simp [EM],by simp [EM],by simp [EM],by simp [EM]⟩,⟨f1,f2⟩,rfl,rfl,rfl,⟨hst,rfl,rfl,rfl,rfl,rfl,rfl,rfl,rfl,rfl,rfl,rfl⟩,⟨by show X.policy∈Er;rw [e1];exact hp,e2,e3⟩⟩,?_⟩
 refine qE Tryz.func87 Tryz.ntmps87 Tryz.results87 fun E hE=>?_
 refine qK (h1) [] ?_
 refine qK (h2) [] ?_
 refine qK (hM) (qI 2 7++qI 10 7) ?_
 refine qP (qI 20 14++qO 2++qI 18 1++qO 4) ?_
 first|exact⟨⟩|simp [EM,aM]
theorem IG {b:List UInt8} {α:Type} [Inhabited α] {C:CurD->α->CurD->Prop} (h:∀ c,c.ok b->∃ x c',C c x c'):∃ F:CurD->α×CurD,∀ c,c.ok b->C c (F c).1 (F c).2:=by
 classical
 refine⟨fun c=>if hc:c.ok b then ((h c hc).choose,(h c hc).choose_spec.choose) else (default,c),fun c hc=>?_⟩
 simp only [dif_pos hc]
 exact (h c hc).choose_spec.choose_spec
def r8 (F:CurD->ActD×CurD):Nat->CurD->List ActD×CurD
 |0,c=>([],c)
 |n+1,c=>((F c).1::(r8 F n (F c).2).1,(r8 F n (F c).2).2)
theorem Gq {b:List UInt8} {F:CurD->ActD×CurD} (hF:∀ c,c.ok b->(F c).2.ok b/\EQ (F c).1):∀ (n:Nat) (c:CurD),c.ok b->(r8 F n c).2.ok b/\(r8 F n c).1.length=n/\∀ a∈(r8 F n c).1,EQ a
 |0,c,h=>⟨h,rfl,fun a ha=>by simp [r8] at ha⟩
 |n+1,c,h=>by
  obtain⟨h1,h2⟩:=hF c h
  obtain⟨h3,h4,h5⟩:=Gq hF n (F c).2 h1
  refine⟨h3,by simp only [r8,List.length_cons,h4],fun a ha=>?_⟩
  simp only [r8,List.mem_cons] at ha
  rcases ha with rfl|ha
  ·exact h2
  exact h5 a ha
theorem F7 (b:List UInt8) (c:CurD) (hc:c.ok b) (m:Int) (hm:1<=m/\m<=120):∃ (l:List ActD) (c':CurD),c'.ok b/\l.length<=120/\(∀ a∈l,EQ a)/\aP 84 [.sc (.pt 1 0 0),.sc (.int .i64 m)] (c.hp b) (.sc (.sl 2 0 l.length)) (c'.hp b++[some ⟨l.map ActD.cs,28,113,true,true⟩]):=by
 obtain⟨F,hF⟩:=IG (b:=b) (Bi b)
 have h1:=ai b c hc m
 have o1:=CurD.below_ok hc m
 have b1:=c.below_lt b (n:=m) (by omega)
 generalize c.below b m=r1 at h1 o1 b1
 obtain⟨v,c1⟩:=r1
 dsimp only at h1 o1 b1
 obtain⟨n,rfl⟩:=Int.eq_ofNat_of_zero_le b1.1
 obtain⟨q1,q2,q3⟩:=Gq (F:=F) (fun c h=>⟨(hF c h).1,(hF c h).2.1⟩) n c1 o1
 obtain⟨R,hR⟩:∃ R,R=r8 F n c1:=⟨_,rfl⟩
 rw [<-hR] at q1 q2 q3
 refine⟨R.1,R.2,q1,by omega,q3,?_⟩
 refine qE Tryz.func84 Tryz.ntmps84 Tryz.results84 fun E hE=>?_
 refine qK (h1) (qI 0 2) ?_
 refine jx 2 hE (fun s (y:List ActD×CurD)=>s.at (qU [1,1,8,14]) [(7,.sc (.int .i64 (y.1.length:Nat))),(5,.sc (.sl 2 0 y.1.length))] (y.2.hp b++[some ⟨y.1.map ActD.cs,28,113,true,true⟩])) (fun (y:List ActD×CurD)=>y.1.length<=n/\y.2.ok b/\(y.1++(r8 F (n - y.1.length) y.2).1,(r8 F (n - y.1.length) y.2).2)=R) (fun (y:List ActD×CurD)=>n - y.1.length) ([],c1) (qI 0 3) (⟨Nat.zero_le _,o1,hR.symm⟩) fun y hy N hN=>?_
 obtain⟨acc,c2⟩:=y
 obtain⟨f1,f2,f3⟩:=hy
 dsimp only at f1 f2 f3
 obtain⟨k1,k2,k3⟩:=hF c2 f2
 refine qR ?_
 refine qB (fun h=>?_) fun h=>?_
 ·rw [show n - acc.length=(n - (acc.length+1))+1 from by omega,r8] at f3
  generalize F c2=z at k1 k2 k3 f3
  obtain⟨a,c3⟩:=z
  dsimp only at k1 k2 k3 f3
  refine qK (k3) (qI 0 2) ?_
  refine⟨qC,hN _ (acc++[a],c3) (qI 0 2++qI 4 1) (by (try dsimp only);exact⟨by simp;omega,k1,by rw [List.length_append,List.length_singleton,List.append_assoc];exact f3⟩) (by simp;omega) (bw (by rfl) (by rfl) ?_)⟩
  try simp (disch:=omega) only [go_sem,seval]
  try simp [ActD.cs]
 rw [show n - acc.length=0 from by omega] at f3
 simp only [r8,List.append_nil] at f3
 subst f3
 exact qF (qI 0 3)
theorem O9 (p:PolicyD) (hp:p∈Er) (l:List ActD) (hl:l.length<=120) (ha:∀ a∈l,EQ a):∃ (w0:WorldD),Fine0 w0/\aP 31 [.ag p.cs,.sc (.sl 0 0 l.length)] [some ⟨l.map ActD.cs,28,113,false,true⟩]
  (.tu [.ag ((gw l w0 []).1.cs 1),.sc (.sl 22 0 (gw l w0 []).2.length)]) ([some ⟨l.map ActD.cs,28,113,false,true⟩]++((gw l w0 []).1.hp true++[some ⟨(gw l w0 []).2.map aM,1,3,true,true⟩])):=by
 obtain⟨w0,h0,hW⟩:=I1 p hp
 refine⟨w0,h0,?_⟩
 obtain⟨R,hR⟩:∃ R,R=gw l w0 []:=⟨_,rfl⟩
 rw [<-hR]
 refine gU Tryz.func31 Tryz.ntmps31 Tryz.results31 fun E hE=>?_
 refine qK (hW) [] ?_
 refine tD 1 hE (fun s (y:Nat×WorldD×List Int)=>s.at (qU [0,1,2,1,7,1,10,35]) [(9,.sc (.int .i64 (y.1:Nat))),(8,.sc (.sl 25 0 y.2.2.length))] ((s.hp.take 3)++(y.2.1.hp true++[some ⟨[WorldD.cs y.2.1 3],61,44,true,false⟩,some ⟨y.2.2.map aM,1,3,true,true⟩]))) (fun (y:Nat×WorldD×List Int)=>y.1<=l.length/\GoodW y.2.1 y.1/\y.2.2.length=y.1/\gw (l.drop y.1) y.2.1 y.2.2=R) (fun (y:Nat×WorldD×List Int)=>l.length - y.1) (0,w0,[]) (qI 0 26) (⟨Nat.zero_le _,h0.g,rfl,hR.symm⟩) fun y hy N hN=>?_
 obtain⟨k,w,cs⟩:=y
 obtain⟨f1,f2,f3,f4⟩:=hy
 dsimp only at f1 f2 f3 f4
 refine qR ?_
 refine qB (fun h=>?_) fun h=>?_
 ·rw [Bn h] at f4
  have hak:=ha l[k] (List.getElem_mem h)
  have hD:=Hd w l[k] (f2.d (by omega))
  have hG:=B5 f2 (a:=l[k]) (by have:=hak.2.1;omega)
  generalize hx:l[k]=x at*
  obtain⟨Q,hQ⟩:∃ Q,Q=iP w x:=⟨_,rfl⟩
  rw [<-hQ] at hD hG f4
  try simp (disch:=omega) only [go_sem,seval,hx]
  refine qD [0,1,2,3,4,5,6,7,8,9,10] ?_
  try simp (disch:=omega) only [go_sem,seval,hx]
  refine aQ (hD) (qI 3 21) ?_
  refine qG ?_
  refine BE hN (k+1,Q.1,cs++[Q.2]) (qI 0 3++qI 26 21++qI 24 1++qI 48 1) (by (try dsimp only);exact⟨by omega,hG,by simp [f3],f4⟩) ?_
  first|exact⟨⟩|simp [aM]
 rw [B9 (by omega)] at f4
 subst f4
 refine qX ?_
 exact dk (qI 0 1++qI 3 21++qI 25 1)
theorem FH (b:List UInt8) (hb:b.length<=1048576):∃ (p:PolicyD) (l:List ActD),p∈Er/\l.length<=120/\(∀ a∈l,EQ a)/\aP 29 [.sc (.sl 0 0 b.length)] [some ⟨b.map ew,1,5,false,true⟩] (.tu [.ag p.cs,.sc (.sl 1 0 l.length)]) ([some ⟨b.map ew,1,5,false,true⟩]++[some ⟨l.map ActD.cs,28,113,true,true⟩]):=by
 obtain⟨p,c1,o1,hp,h1⟩:=yA b (pL b) (Cf hb)
 obtain⟨l,c2,o2,hl,ha,h2⟩:=F7 b c1 o1 70 (by omega)
 refine⟨p,l,hp,hl,ha,?_⟩
 refine qE Tryz.func29 Tryz.ntmps29 Tryz.results29 fun E hE=>?_
 refine qK (Bc b hb) (qI 0 1) ?_
 refine qK (h1) (qI 0 1++qI 2 1) ?_
 refine oF [(0,2)] [[1,0,2,3,4],[1,2,0,3,4]] (by kernel_rfl) (qC) (by kernel_rfl) ?_
 simp only [bm]
 refine⟨cj 400 ?_,cj 400 ?_⟩
 all_goals simp (disch:=omega) only [go_sem,seval]
 all_goals
  refine fK (qC) (h2) (qI 0 1++qI 2 1) qM (by rfl) (cj 400 ?_)
  simp (disch:=omega) only [go_sem,seval]
  refine qG ?_
  exact qF (qI 0 1++qI 4 1)
theorem Fine0.c {w:WorldD} (h:Fine0 w):LifeC w 0:=⟨⟨h.g,h.st.inv,h.st.ans⟩,h.st.car⟩
theorem Qj (b:List UInt8) (hb:b.length<=maxLen) (_:∀ x∈b,True):aP 6 [.sc (.sl 0 0 b.length)] [some ⟨b.map ew,1,5,false,true⟩] (.sc (.bo true)) [some ⟨b.map ew,1,5,false,true⟩]:=by
 refine qE Tryz.func6 Tryz.ntmps6 Tryz.results6 fun E hE=>?_
 refine qK (DF b hb) (qI 0 1) ?_
 refine qB (fun h=>?_) fun h=>?_
 ·exact qF (qI 0 1)
 obtain⟨p,l,hp,hl,ha,hD⟩:=FH b (by omega)
 have hpo:polOk p=true:=List.all_eq_true.1 (show (Er.all polOk)=true by decide) p hp
 have ht:∀ a∈l,a.text.length<=1048576:=fun a h=>by have:=(ha a h).2.1;omega
 obtain⟨w0,h0,c1⟩:=O9 p hp l hl ha
 have hC:=(sH (Q:=LifeC) (P:=fun a=>a.text.length<=1048576) (fun w k a h ha=>h.step ha) (l:=l) (w:=w0) (cs:=[]) (k:=0) h0.c ht).1
 have hB:=(sH (Q:=fun w _=>PT w) (P:=fun _=>True) (fun w k a h _=>KG h) (l:=l) (w:=w0) (cs:=[]) (k:=0) ⟨by rw [h0.bag];simp,by rw [h0.past];simp⟩ fun _ _=>trivial).1
 obtain⟨R,hR⟩:∃ R,R=gw l w0 []:=⟨_,rfl⟩
 rw [<-hR] at c1 hC hB
 clear hR
 obtain⟨w,cs⟩:=R
 dsimp only at c1 hC hB
 have hk:0+l.length<=1000:=by omega
 have hg:=hC.l.g
 have hs:=hg.s
 have q1:=PW hC hk w.a.subs
 have q2:=PW hC hk w.b.subs
 have q3:=P0 hC hk w.a.subs
 have q4:=P0 hC hk w.b.subs
 have q5:=P2 hC hk
 have q6:=Qf hC.l.i.c hC.c
 have q7:w.past.length < 150->_:=Qu hC.l.i.c hC.c hg.b.p
 have q8:w.past.length < 150->_:=Qv hC.l.i.c hC.c hg.a.p
 have q9:=PX hC hk
 have q10:w.past.length<=150:=hB.2
 have c2:=PM w 1 hs.a.own hs.a.far hs.a.subs hs.a.halfs hs.a.list hs.a.done hs.a.over hs.b.own hs.b.far hs.b.subs hs.b.halfs hs.b.list hs.b.done hs.b.over hs.past
 have c3:=PM w 2 hs.a.own hs.a.far hs.a.subs hs.a.halfs hs.a.list hs.a.done hs.a.over hs.b.own hs.b.far hs.b.subs hs.b.halfs hs.b.list hs.b.done hs.b.over hs.past
 rw [show PH w 1=w.a.subs.map (PC w.past) from rfl] at c2
 rw [show PH w 2=w.b.subs.map (PC w.past) from rfl] at c3
 have c4:=PL w.past hs.past
 have c5:=P1 w.past hs.past
 have c6:=cB w.b.inp
 have c7:=cB w.a.inp
 have n1:=hC.l.i.c.oka.subs8
 have n2:=hC.l.i.c.okb.subs8
 have l1:(w.a.subs.map (PC w.past)).length=w.a.subs.length:=List.length_map ..
 have l2:(w.b.subs.map (PC w.past)).length=w.b.subs.length:=List.length_map ..
 clear hB hC hg hs ha ht
 rw [q5] at c4 c5
 have q6:((Pz w.past w.a.subs:Nat):Int)+((Pz w.past w.b.subs:Nat):Int)=((Px w.past:Nat):Int):=by omega
 generalize w.a.subs.map (PC w.past)=L1 at*
 generalize w.b.subs.map (PC w.past)=L2 at*
 generalize Pz w.past w.a.subs=t1 at*
 generalize Pz w.past w.b.subs=t2 at*
 generalize Px w.past=t3 at*
 generalize nextOf w.b.inp=v1 at*
 generalize nextOf w.a.inp=v2 at*
 refine qK (hD) (qI 0 1) ?_
 refine qK (c1) (qI 1 1) ?_
 refine qK (c2) (qI 3 21) ?_
 refine qK (c3) (qI 3 21) ?_
 refine ju 1 hE (fun s (y:Nat)=>s.at (qU [0,1,3,2,6,1,14,29]) [(9,.sc (.int .i64 (PI (L1.take y)))),(10,.sc (.int .i64 (y:Nat)))] (s.hp)) (fun (y:Nat)=>y<=L1.length) (fun (y:Nat)=>L1.length - y) 0 (qI 0 28) (qC) (Nat.zero_le _) (ab (by rfl) (by rfl) ?_) fun y hy N hN=>?_
 ·try simp (disch:=omega) only [go_sem,seval]
  try simp [PI]
 have hy:=hy
 refine qR ?_
 refine qB (fun h9=>?_) fun h9=>?_
 ·have e1:=P3 h9
  have e2:=q3 L1[y] (List.getElem_mem h9)
  have e3:=P9 (B:=2000000000*1048576) (l:=L1.take y) fun v hv=>q3 v (List.mem_of_mem_take hv)
  have e4:(L1.take y).length<=8:=by rw [List.length_take];omega
  generalize (L1.take y).length=e6 at*
  generalize hv:L1[y]=v at*
  try simp (disch:=omega) only [go_sem,seval,hv,aT h9]
  refine⟨by (try simp (disch:=omega) only [go_sem,List.length_set,seval,hv])<;>omega,hN _ (y+1) (qI 0 28) (by (try dsimp only);exact h9) (by (try dsimp only);omega) (ab (by rfl) (by rfl) ?_)⟩
  try simp (disch:=omega) only [go_sem,seval,hv]
  try omega
 rw [List.take_of_length_le (by omega),q1]
 refine qX ?_
 refine ju 1 hE (fun s (j:Nat)=>s.at (qU [0,1,3,2,6,1,10,1,14,41]) [(11,.sc (.int .i64 (PI (L2.take j)))),(12,.sc (.int .i64 (j:Nat)))] (s.hp)) (fun (j:Nat)=>j<=L2.length) (fun (j:Nat)=>L2.length - j) 0 (qI 0 28) (qC) (Nat.zero_le _) (ab (by rfl) (by rfl) ?_) fun j hj N2 hN2=>?_
 ·try simp (disch:=omega) only [go_sem,seval]
  try simp [PI]
 have hj:=hj
 refine qR ?_
 refine qB (fun h8=>?_) fun h8=>?_
 ·have e1:=P3 h8
  have e2:=q4 L2[j] (List.getElem_mem h8)
  have e3:=P9 (B:=2000000000*1048576) (l:=L2.take j) fun v hv=>q4 v (List.mem_of_mem_take hv)
  have e4:(L2.take j).length<=8:=by rw [List.length_take];omega
  generalize (L2.take j).length=e6 at*
  generalize hv:L2[j]=v at*
  try simp (disch:=omega) only [go_sem,seval,hv,aT h8]
  refine⟨by (try simp (disch:=omega) only [go_sem,List.length_set,seval,hv])<;>omega,hN2 _ (j+1) (qI 0 28) (by (try dsimp only);exact h8) (by (try dsimp only);omega) (ab (by rfl) (by rfl) ?_)⟩
  try simp (disch:=omega) only [go_sem,seval,hv]
  try omega
 rw [List.take_of_length_le (by omega),q2]
 refine qX ?_
 refine qK (c4) (qI 18 1) ?_
 by_cases h150:w.past.length=150
 ·try simp (disch:=omega) only [go_sem,seval,l1,l2,q6]
  refine qK (c5) (qI 18 1) ?_
  try simp (disch:=omega) only [go_sem,seval,l1,l2,h150,q6]
  exact qF (qI 0 1)
 have f1:=q7 (by omega)
 have f2:=q8 (by omega)
 try simp (disch:=omega) only [go_sem,seval,l1,l2,q6]
 refine qK (c5) (qI 18 1) ?_
 refine qX ?_
 refine qK (c6) (qI 14 1) ?_
 refine qX ?_
 refine qK (c7) (qI 7 1) ?_
 exact qF (qI 0 1)
end
end Go.Proofs.YtjghbknhneffjaaGreat
