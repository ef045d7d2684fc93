/-
  Texts merged for this claim by shake.py: what its proof needs.
-/
import Derived.Test.YtjghbknhneffjaaGreatZFnBaseL
import Derived.Test.YtjghbknhneffjaaGreatZFnBaseM
import Derived.Test.YtjghbknhneffjaaGreatZFnBaseN
set_option maxHeartbeats 16000000
set_option maxRecDepth 100000
set_option linter.unusedVariables false
set_option linter.unusedSimpArgs false
namespace Go.Proofs.YtjghbknhneffjaaGreat
section
open Go.RowKit
section
variable {P:Program} {β:Be} {s:S} {a:Act} {w:World} {o:Oper} {r:OpR} {ty:TypeId}
end
end
section
open Go.RowKit
end
section
open Go.RowKit
section
variable {P:Program} {E:Entry} {F:S->Prop} {c q:Prop}
end
end
section
end
section
end
section
open Go.RowKit
def r7 (x:LetterD):List Int:=[x.key,x.nonce,x.give,x.sgn]
def p8 (w:WorldD) (n:Int):Bool:=decide (n < 1000) || mq w.nums n
theorem v9 (w:WorldD) (x:LetterD):xa w x=(dZ x && !decide (sideAt x.to=0) && f7 w.known x.tag && (r7 x).all (p8 w)):=rfl
theorem Ff (w:WorldD) (x:LetterD) (h0:w.known.keys.length<=1048576) (h1:w.known.tags.length<=1048576) (h2:w.nums.length<=1048576):aP 13 [.ag (w.cs 0),.ag x.cs] (w.hp false) (.sc (.bo (xa w x))) (w.hp false):=by
 have hL:=bT x
 have hS:=cV x.to
 have hK:=qc w.known x.tag h0 h1
 obtain⟨R,hR⟩:∃ R,R=xa w x:=⟨_,rfl⟩
 rw [<-hR]
 rw [v9] at hR
 refine qE Tryz.func13 Tryz.ntmps13 Tryz.results13 fun E hE=>?_
 refine qK (hL) [] ?_
 refine qB (fun c1=>?_) fun c1=>?_
 ·refine qK (hS) [] ?_
  refine qB (fun c2=>?_) fun c2=>?_
  ·refine qK (hK) (qI 16 2) ?_
   refine qB (fun c3=>?_) fun c3=>?_
   ·rw [c3] at hR
    simp only [Bool.and_false,Bool.false_and] at hR
    subst hR
    refine qX ?_
    exact qF (qI 0 21)
   rw [c1,c3,decide_eq_false c2] at hR
   simp only [Bool.not_false,Bool.true_and,Bool.and_true] at hR
   refine qX ?_
   refine jx 21 hE (fun s (i:Nat)=>s.at (qU [0,2,3,2,7,47]) [(6,.sc (.int .i64 (i:Nat)))] (s.hp)) (fun (i:Nat)=>i<=4/\R=((r7 x).drop i).all (p8 w)) (fun (i:Nat)=>4 - i) 0 (qI 0 24) (⟨by omega,hR⟩) fun i hi N hN=>?_
   obtain⟨g1,g2⟩:=hi
   refine qR ?_
   split<;>rename_i b<;>(try simp only [decide_eq_true_eq,decide_eq_false_iff_not,Int.ofNat_lt] at b)
   rotate_left
   ·rw [List.drop_eq_nil_of_le (by simp only [r7,List.length_cons,List.length_nil];omega),List.all_nil] at g2
    subst g2
    refine qX ?_
    exact qF (qI 0 21)
   have hi4:i < (r7 x).length:=by simp only [r7,List.length_cons,List.length_nil];omega
   rw [xl hi4] at g2
   generalize hv:(r7 x)[i]=v at g2
   have hg:([[.int .i64 x.key],[.int .i64 x.nonce],[.int .i64 x.give],[.int .i64 x.sgn]]:List (List Sc))[i]? =some (aM v):=by
    rw [<-hv]
    rw [show ([[.int .i64 x.key],[.int .i64 x.nonce],[.int .i64 x.give],[.int .i64 x.sgn]]:List (List Sc))=(r7 x).map aM from rfl]
    exact aT hi4
   simp only [aM] at hg
   have hH:=eA w.nums v h2
   refine qX ?_
   refine qD [0,1,2,3,4,5,6,7,8,9,10,11,12,13,14] ?_
   try simp (disch:=omega) only [go_sem,seval,hg]
   refine qB (fun b1=>?_) fun b1=>?_
   ·try simp (disch:=omega) only [go_sem,seval,hg]
    refine aQ (hH) (qI 18 1) ?_
    refine qG ?_
    refine qB (fun b2=>?_) fun b2=>?_
    ·rw [show p8 w v=false by rw [p8,b2,decide_eq_false (by omega)];rfl,Bool.false_and] at g2
     subst g2
     refine qX ?_
     exact qF (qI 0 21)
    rw [show p8 w v=true by rw [p8,b2,Bool.or_true],Bool.true_and] at g2
    refine qX ?_
    exact qN hN (i+1) (qI 0 24) (by (try dsimp only);exact⟨by omega,g2⟩)
   rw [show p8 w v=true by rw [p8,decide_eq_true (by omega)];rfl,Bool.true_and] at g2
   refine qG ?_
   exact qN hN (i+1) (qI 0 24) (by (try dsimp only);exact⟨by omega,g2⟩)
  rw [decide_eq_true c2] at hR
  simp only [Bool.not_true,Bool.and_false,Bool.false_and] at hR
  subst hR
  refine qX ?_
  exact qF (qI 0 21)
 rw [c1] at hR
 simp only [Bool.false_and] at hR
 subst hR
 refine qX ?_
 exact qF (qI 0 21)
theorem s7 (e:EndD) (k:Int):(ks e k).2.length<=1:=by rw [ks];split<;>simp
theorem r6 (e:EndD) (n:Int) (hs:Small e):(iA e n).2.length<=1048576:=by
 rw [iA];split
 ·rw [List.length_map]
  have:=pO (ic e n)
  have h2:(ic e n).length=e.subs.length:=by rw [ic,List.length_map]
  have:=hs.subs
  omega
 simp
theorem Hw {w:WorldD} {s m p:Int} {t:List UInt8} {ad:AddrD} {le:LetterD} (h:xa w le=false):ce w ⟨11,s,p,m,t,ad,le⟩=(w,2):=by
 unfold ce;dsimp only;rw [if_neg (by omega),if_neg (by omega),if_pos rfl,if_pos h]
theorem Hx {w:WorldD} {s m p:Int} {t:List UInt8} {ad:AddrD} {le:LetterD} (h:xa w le=true) (h2:40<=w.bag.length):ce w ⟨11,s,p,m,t,ad,le⟩=(w,1):=by
 unfold ce;dsimp only;rw [if_neg (by omega),if_neg (by omega),if_pos rfl,if_neg (by simp [h]),if_pos h2]
theorem Hy {w:WorldD} {s m p:Int} {t:List UInt8} {ad:AddrD} {le:LetterD} (h:xa w le=true) (h2:¬ 40<=w.bag.length):ce w ⟨11,s,p,m,t,ad,le⟩=({ w with bag:=w.bag++[le] },0):=by
 unfold ce;dsimp only;rw [if_neg (by omega),if_neg (by omega),if_pos rfl,if_neg (by simp [h]),if_neg h2]
theorem Hz {w:WorldD} {s m:Int} {p:Nat} {t:List UInt8} {ad:AddrD} {le:LetterD} (h:¬ p < w.past.length):ce w ⟨12,s,(p:Nat),m,t,ad,le⟩=(w,1):=by
 unfold ce;dsimp only;rw [if_neg (by omega),if_neg (by omega),if_neg (by omega),if_pos (.inl (by omega))]
theorem HA {w:WorldD} {s m:Int} {p:Nat} {t:List UInt8} {ad:AddrD} {le:LetterD} (h:p < w.past.length) (h2:sideAt w.past[p].to=0\/40<=w.bag.length):ce w ⟨12,s,(p:Nat),m,t,ad,le⟩=(w,1):=by
 unfold ce;dsimp only;rw [if_neg (by omega),if_neg (by omega),if_neg (by omega),sG h,if_pos (.inr h2)]
theorem HC {w:WorldD} {s m:Int} {p:Nat} {t:List UInt8} {ad:AddrD} {le:LetterD} (h:p < w.past.length) (h1:¬ sideAt w.past[p].to=0) (h2:¬ 40<=w.bag.length):ce w ⟨12,s,(p:Nat),m,t,ad,le⟩=({ w with bag:=w.bag++[w.past[p]] },0):=by
 unfold ce;dsimp only;rw [if_neg (by omega),if_neg (by omega),if_neg (by omega),sG h,if_neg (by omega)]
def N4 (l:List LetterD):Nat:=(l.filter fun x=> !decide (sideAt x.to=0)).length
theorem Nx {side:Int} {w:WorldD} {x:LetterD} (h:w.bag.length<=40):(cn side w x).bag.length=min 40 (w.bag.length+(if sideAt x.to=0 then 0 else 1)):=by
 rw [cn];split
 ·show w.bag.length=_;omega
 show (ut w.bag x).length=_
 rw [ut];split
 ·simp;omega
 omega
theorem MY {side:Int} {w:WorldD} {x:LetterD} (h:w.past.length<=150):(cn side w x).past.length=min 150 (w.past.length+1):=by
 have e:(cn side w x).past=mS w.past x:=by rw [cn];split<;>rfl
 rw [e,mS];split
 ·simp;omega
 omega
theorem LZ {side:Int}:∀ {l:List LetterD} {w:WorldD},w.bag.length<=40->w.past.length<=150->(an side w l).bag.length=min 40 (w.bag.length+N4 l)/\(an side w l).past.length=min 150 (w.past.length+l.length)
 |[],w,h1,h2=>by
  rw [show an side w []=w from rfl,show N4 []=0 from rfl,List.length_nil];omega
 |x::l,w,h1,h2=>by
  have e1:=Nx (side:=side) (x:=x) h1
  have e2:=MY (side:=side) (x:=x) h2
  obtain⟨g1,g2⟩:=LZ (side:=side) (l:=l) (w:=cn side w x) (by omega) (by omega)
  have e3:N4 (x::l)=(if sideAt x.to=0 then 0 else 1)+N4 l:=by
   by_cases h0:sideAt x.to=0<;>simp [N4,h0];omega
  rw [show an side w (x::l)=an side (cn side w x) l from rfl,g1,g2,e1,e2,e3,List.length_cons]
  omega
def PT (w:WorldD):Prop:=w.bag.length<=40/\w.past.length<=150
theorem LD {side:Int} {l:List LetterD} {w:WorldD} (h:PT w):PT (an side w l):=by
 obtain⟨h1,h2⟩:=LZ (side:=side) (l:=l) h.1 h.2
 constructor<;>omega
theorem KP {w:WorldD} {s:Int} {e:EndD} (h:PT w):PT (cq w s e):=by unfold cq;split<;>exact h
theorem Ny {w:WorldD} {a:ActD} (h:PT w):PT (gD w a):=by
 unfold gD dT bR;repeat' split
 all_goals exact h
theorem MZ {w:WorldD} {x:LetterD} (h:PT w):PT (eF w x):=by
 rw [eF];split
 ·exact h
 rw [qe];split
 ·exact LD (KP h)
 exact KP h
theorem KG {w:WorldD} {a:ActD} (h:PT w):PT (iP w a).1:=by
 have hb:PT { w with bag:=fF w.bag a.pos }:=⟨by have:=h.1;simp only [fF,List.length_append,List.length_take,List.length_drop];omega,h.2⟩
 have ha:∀ x,¬ 40<=w.bag.length->PT { w with bag:=w.bag++[x] }:=fun x hx=>⟨by simp only [List.length_append,List.length_singleton];omega,h.2⟩
 unfold iP;split
 ·split
  ·unfold eX;split
   ·exact h
   exact LD (KP (Ny h))
  rw [ce]
  split
  ·split
   ·exact h
   split
   ·exact MZ hb
   exact hb
  split
  ·split
   ·exact h
   rename_i hh;exact ha _ (fun h40=>hh (.inr h40))
  split
  ·split
   ·exact h
   split
   ·exact h
   rename_i hh;exact ha _ hh
  split
  ·exact h
  rename_i hh;exact ha _ (fun h40=>hh (.inr (.inr h40)))
 exact h
end
end Go.Proofs.YtjghbknhneffjaaGreat
