/- Lemmas of this claim. -/
import Derived.Test.YtdiiopjaebnmfaaGreatZFnBaseG
import Derived.Test.YtdiiopjaebnmfaaGreatZFnBaseH
import Derived.Test.YtdiiopjaebnmfaaGreatZFnBaseI
set_option maxHeartbeats 16000000
set_option maxRecDepth 100000
set_option linter.unusedVariables false
set_option linter.unusedSimpArgs false
namespace Go.Proofs.YtdiiopjaebnmfaaGreat
open _root_.Go.Proofs.Tryz
section
open Go.RowKit
theorem tQ (e:EndD) (x:LetterD) (hs:Small e) (hsp:SmallP e.inp):aP 118 [.ag (e.cs 0),.ag x.cs] (e.hp false) (.tu [.ag ((hear e x).1.cs 7),.sc (.sl 14 0 (hear e x).2.length)])
  (e.hp false++((hear e x).1.hpS++[some ⟨(hear e x).2.map LetterD.cs,19,134,true,true⟩])):=by
 have hC:=(qH (ar e))
 have hK:=(qH (aH e))
 have hL:=cD x
 have hO:=fG e x.to (by have:=hs.own;omega)
 have hf:=nq (e:=e) (x:=x)
 have hno:=vq (e:=e) (x:=x)
 have hr1:=re (e:=e) (x:=x)
 have hr2:=rf (e:=e) (x:=x)
 have hr4:=nr (e:=e) (x:=x)
 have hr5:=nu (e:=e) (x:=x)
 have hr6:=nv (e:=e) (x:=x)
 have hr7:=ny (e:=e) (x:=x)
 have hr8:=rg (e:=e) (x:=x)
 have hr9:=rh (e:=e) (x:=x)
 have hr10:=mg (e:=e) (x:=x)
 have hr11:=mh (e:=e) (x:=x)
 have hr12:=mi (e:=e) (x:=x)
 have hr13:=mj (e:=e) (x:=x)
 generalize hear e x=R at*
 refine qE func118 ntmps118 results118 fun E hE=>?_
 refine qK (hK) (qI 0 7) ?_
 refine qB (fun h1=>?_) fun h1=>?_
 ·refine qK (hL) [] ?_
  refine qB (fun h2=>?_) fun h2=>?_
  ·refine qK (hO) (qI 0 7) ?_
   refine qB (fun h3=>?_) fun h3=>?_
   ·rw [hf (by simp [bL,h1,h2,h3])]
    refine qX ?_
    refine qK (hC) (qI 0 7) ?_
    exact qF (qI 0 7++qI 10 8)
   have hh:bL e x=true:=by simp [bL,h1,h2,h3]
   refine qX ?_
   refine qB (fun k1=>?_) fun k1=>?_
   ·rw [hr1 hh k1]
    refine qX ?_
    refine qK (jI e x hs) (qI 0 7) ?_
    exact qF (qI 0 7++qI 10 8)
   refine qX ?_
   refine qB (fun k2=>?_) fun k2=>?_
   ·rw [hr2 hh k2]
    refine qX ?_
    refine qK (kM e x hs) (qI 0 7) ?_
    exact qF (qI 0 7++qI 10 8)
   refine qX ?_
   refine qB (fun k4=>?_) fun k4=>?_
   ·rw [hr4 hh k4]
    refine qX ?_
    refine qK (sM e x hs) (qI 0 7) ?_
    exact qF (qI 0 7++qI 10 8)
   refine qX ?_
   refine qB (fun k5=>?_) fun k5=>?_
   ·rw [hr5 hh k5]
    refine qX ?_
    refine qK (mc e x hs) (qI 0 7) ?_
    exact qF (qI 0 7++qI 10 8)
   refine qX ?_
   refine qB (fun k6=>?_) fun k6=>?_
   ·rw [hr6 hh k6]
    refine qX ?_
    refine qK (md e x hs) (qI 0 7) ?_
    exact qF (qI 0 7++qI 10 8)
   refine qX ?_
   refine qB (fun k7=>?_) fun k7=>?_
   ·rw [hr7 hh k7]
    refine qX ?_
    refine qK (nf e x hs) (qI 0 7) ?_
    exact qF (qI 0 7++qI 10 8)
   refine qX ?_
   refine qB (fun k8=>?_) fun k8=>?_
   ·rw [hr8 hh k8]
    refine qX ?_
    refine qK (sN e x hs) (qI 0 7) ?_
    exact qF (qI 0 7++qI 10 8)
   refine qX ?_
   refine qB (fun k9=>?_) fun k9=>?_
   ·rw [hr9 hh k9]
    refine qX ?_
    refine qK (sO e x hs) (qI 0 7) ?_
    exact qF (qI 0 7++qI 10 8)
   refine qX ?_
   refine qB (fun k10=>?_) fun k10=>?_
   ·rw [hr10 hh k10]
    refine qX ?_
    refine qK (sP e x hs) (qI 0 7) ?_
    exact qF (qI 0 7++qI 10 8)
   refine qX ?_
   refine qB (fun k11=>?_) fun k11=>?_
   ·rw [hr11 hh k11]
    refine qX ?_
    refine qK (sR e x hs hsp) (qI 0 7) ?_
    exact qF (qI 0 7++qI 10 8)
   refine qX ?_
   refine qB (fun k12=>?_) fun k12=>?_
   ·rw [hr12 hh k12]
    refine qX ?_
    refine qK (sJ e x hs) (qI 0 7) ?_
    exact qF (qI 0 7++qI 10 8)
   refine qX ?_
   refine qB (fun k13=>?_) fun k13=>?_
   ·rw [hr13 hh k13]
    refine qX ?_
    refine qK (ql e x hs) (qI 0 7) ?_
    exact qF (qI 0 7++qI 10 8)
   refine qX ?_
   rw [hno (by intro k hk;omega)]
   refine qX ?_
   refine qK (hC) (qI 0 7) ?_
   exact qF (qI 0 7++qI 10 8)
  rw [hf (by simp [bL,h2])]
  refine qX ?_
  refine qK (hC) (qI 0 7) ?_
  exact qF (qI 0 7++qI 10 8)
 rw [hf (by simp [bL,h1])]
 refine qX ?_
 refine qK (hC) (qI 0 7) ?_
 exact qF (qI 0 7++qI 10 8)
def AK:Hp->Bool
 |[]=>true
 |some ob::h=> !ob.own && AK h
 |none::h=>AK h
theorem sC:∀ {h:Hp} {o:Nat} {ob:AObj},AK h=true->h[o]? =some (some ob)->ob.own=false
 |some x::h,0,ob,hr,ho=>by
  simp only [AK,Bool.and_eq_true,Bool.not_eq_true'] at hr
  simp at ho
  subst ho
  exact hr.1
 |some x::h,o+1,ob,hr,ho=>by
  simp only [AK,Bool.and_eq_true] at hr
  exact sC hr.2 (by simpa using ho)
 |none::h,0,ob,hr,ho=>by simp at ho
 |none::h,o+1,ob,hr,ho=>sC (h:=h) hr (by simpa using ho)
 |[],o,ob,_,ho=>by simp at ho
theorem FC {β:Be} {w:World}:∀ {l:Be} {h:Hp},IL β w l h->AK h=true
 |[],[],_=>rfl
 |p::l,some ob::h,hr=>by
  have:=FC hr.2
  simp [AK,hr.1.1,this]
 |[],_::_,h=>h.elim
 |_::_,[],h=>h.elim
 |_::_,none::_,h=>h.elim
theorem JV {P:Program} {f:FuncId} {args:List AV} {b:Bool} {h h':Hp} (ct:dJ P f args h (.sc (.bo b)) h') {β:Be} {w:World} (hr:IL β w β h) {vs:List Value} (hvs:L2 (dZ β) args vs):
  Calls P f vs.toArray w fun e w'=>e=.returned (.bool b)/\Below w.heap.size w w':=
 (ct.2 β w vs (DZ hr) hvs).mono fun e w' ⟨β',v,he,hv,hh,hst⟩=>by
  have hv':v=.bool b:=hv
  subst hv'
  exact⟨he,⟨hst.os,hst.tape,hst.output,hst.size,fun k hk=>hst.block k hk fun⟨o,ob,p,ho,hown,hp,_⟩=>by
   rw [sC (FC hr) ho] at hown
   cases hown⟩⟩
end
end Go.Proofs.YtdiiopjaebnmfaaGreat
