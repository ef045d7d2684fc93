/- Lemmas of this claim. -/
import Derived.Test.YtdiiopjaebnmfaaGreatZFnBaseC
set_option maxHeartbeats 16000000
set_option maxRecDepth 100000
set_option linter.unusedVariables false
set_option linter.unusedSimpArgs false
namespace Go.Proofs.YtdiiopjaebnmfaaGreat
open _root_.Go.Proofs.Tryz
section
open Go.RowKit
theorem CH {e:EndD} (h:ah e=true):e.own.length<=6:=by
 simp only [ah,Bool.and_eq_true] at h
 exact iT (by simp_all)
theorem KO {e:EndD} {a:AddrD} (h:zE e a=false):addOwn e a=(e,false):=by rw [addOwn,if_neg (by simp [h])]
theorem KP {e:EndD} {a:AddrD} (h:zE e a=true):addOwn e a=({ e with own:=(aA e.own { a with told:=false }).1 },(aA e.own { a with told:=false }).2):=by rw [addOwn,if_pos h]
theorem JF {e:EndD} {a:AddrD} (h:(aA e.own { a with told:=false }).2=false):addOwn e a=(e,false):=by
 rw [addOwn];split
 ·have:aA e.own { a with told:=false }=(e.own,false):=by
   rw [aA] at h⊢;split
   ·rename_i hh;rw [if_pos hh] at h;cases h
   rfl
  rw [this]
 rfl
theorem oy (e:EndD) (a:AddrD) (hs:Small e):aP 87 [.ag (e.cs 0),.ag a.cs] (e.hp false) (.tu [.ag ((addOwn e a).1.cs 7),.sc (.bo (addOwn e a).2)]) (e.hp false++(addOwn e a).1.hp true):=by
 have hC:=(qH (ar e))
 have hK:=(qH (aH e))
 have hA:=c_ e.own a.id (by have:=hs.own;omega)
 have hH:=n8 e.done a.id (by have:=hs.done;omega)
 have hP:=fun h=>eW e.own { a with told:=false } h
 have hf:=KO (e:=e) (a:=a)
 have ht:=KP (e:=e) (a:=a)
 have ht2:=JF (e:=e) (a:=a)
 have hok:zE e a=(ah e && decide (aB e.own a.id < 0) && !oN e.done a.id):=rfl
 generalize addOwn e a=R at*
 generalize aA e.own { a with told:=false }=pa at*
 obtain⟨own1,ok1⟩:=pa
 dsimp only at hP ht ht2
 refine FE func87 ntmps87 results87 fun E hE=>?_
 refine qK (hC) (qI 0 7) ?_
 refine qK (hP (by have:=hs.own;omega)) (qI 0 1) ?_
 refine qK (hK) (qI 0 7) ?_
 refine qB (fun b1=>?_) fun b1=>?_
 ·cases ok1 with
  |false=>
   rw [ht2 rfl]
   refine qX ?_
   exact iO (qI 0 7++qI 10 7)
  |true=>
   refine qX ?_
   refine qK (hA) (qI 0 1) ?_
   refine qB (fun b2=>?_) fun b2=>?_
   ·refine qK (hH) (qI 5 1) ?_
    refine qB (fun b3=>?_) fun b3=>?_
    ·rw [hf (by rw [hok];simp [b3])]
     refine qX ?_
     exact iO (qI 0 7++qI 10 7)
    rw [ht (by rw [hok,b1,decide_eq_true zO,b3];rfl)]
    refine qX ?_
    exact iO (qI 0 7++qI 18 1++qI 11 6)
   rw [hf (by rw [hok,decide_eq_false zO];simp)]
   refine qX ?_
   exact iO (qI 0 7++qI 10 7)
 rw [hf (by simp [hok,b1])]
 refine qX ?_
 exact iO (qI 0 7++qI 10 7)
end
end Go.Proofs.YtdiiopjaebnmfaaGreat
