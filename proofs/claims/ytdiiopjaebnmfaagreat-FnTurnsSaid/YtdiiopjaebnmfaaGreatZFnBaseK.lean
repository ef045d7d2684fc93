/- Lemmas of this claim. -/
import Derived.Test.YtdiiopjaebnmfaaGreatZFnBaseF
import Derived.Test.YtdiiopjaebnmfaaGreatZFnBaseJ
set_option maxHeartbeats 16000000
set_option maxRecDepth 100000
set_option linter.unusedVariables false
set_option linter.unusedSimpArgs false
namespace Go.Proofs.YtdiiopjaebnmfaaGreat
open _root_.Go.Proofs.Tryz
open _root_.List renaming length_append->KZ,length_take->K0,length_map->K1
section
open Go.RowKit
theorem xI {e:EndD} {t:List UInt8} (hs:Small e):Small (cf e t).1:=by
 rw [cf];split
 ·exact⟨hs.own,hs.far,hs.subs,hs.halfs,hs.list,hs.done,hs.over⟩
 exact hs
theorem xJ {e:EndD} {m:Int} (hs:Small e):Small (b_ e m).1:=by
 rw [b_];split
 ·refine⟨hs.own,hs.far,hs.subs,hs.halfs,?_,hs.done,hs.over⟩
  dsimp only
  rw [aK];split<;>exact hs.list
 exact hs
theorem vB {e:EndD} {a:AddrD} (hs:Small e):Small (addOwn e a).1:=by
 rw [addOwn];split
 ·exact⟨rl hs.own,hs.far,hs.subs,hs.halfs,hs.list,hs.done,hs.over⟩
 exact hs
theorem vC {e:EndD} {k:Int} (hs:Small e):Small (iX e k).1:=by
 rw [iX];split
 ·exact⟨hs.own,hs.far,by simpa only [ba,List.length_set] using hs.subs,hs.halfs,hs.list,hs.done,hs.over⟩
 exact hs
theorem sX {e:EndD} {n:Int} (hs:Small e):Small (gm e n).1:=by
 rw [gm];split
 ·rename_i h
  simp only [Ib,Bool.and_eq_true] at h
  have:=(tU h.1.1).1
  exact⟨om hs.own,hs.far,by simpa only [fW,K1] using hs.subs,hs.halfs,hs.list,by have:=ma e.done n;dsimp only;omega,hs.over⟩
 exact hs
theorem oz {far:List AddrD}:∀ {l:List RoadD} {e:EndD},Small e->Small (ci far e l).1
 |[],_,h=>h
 |r::l,e,h=>oz (l:=l) (rG h)
theorem t7 {far:List AddrD}:∀ {l:List RoadD} {e:EndD},(ci far e l).2.length<=l.length
 |[],_=>Nat.le_refl _
 |r::l,e=>by
  have h1:=xE e r (aD far r.far)
  have h2:=t7 (far:=far) (l:=l) (e:=(cA e r (aD far r.far)).1)
  rw [show (ci far e (r::l)).2=(cA e r (aD far r.far)).2++(ci far (cA e r (aD far r.far)).1 l).2 from rfl,KZ,List.length_cons]
  omega
theorem vD {e:EndD} (hs:Small e):Small (manage e).1:=by
 rw [manage];split
 ·exact oz hs
 exact hs
theorem i7 (e:EndD):(manage e).2.length<=64:=by
 rw [manage];split
 ·exact Nat.le_trans t7 (mv _ _)
 simp
theorem z6 {e:EndD} (hs:Small e):Small (tick e).1:=by
 have hy:=rI e.halfs (e.now+1)
 have:=hs.halfs
 rw [tick];split
 ·split
  ·rw [bm];exact g0 ⟨hs.own,hs.far,by dsimp only;rw [K1];exact hs.subs,by dsimp only [bU];omega,hs.list,hs.done,hs.over⟩
  rw [bm];exact g0 ⟨hs.own,hs.far,hs.subs,by dsimp only [bU];omega,hs.list,hs.done,hs.over⟩
 exact hs
theorem oA (e:EndD) (l:List LetterD):(bm e l).2.length<=l.length+e.own.length+3:=by
 have h1:=mw e
 have h2:=gu (k:=3) (e:=e)
 rw [bm]
 simp only [KZ]
 omega
theorem xK (e:EndD):(tick e).2.length<=64:=by
 rw [tick];split
 ·rename_i h
  simp only [Bm,Bool.and_eq_true] at h
  have h8:=cH h.1.1
  have h6:=CH h.1.1
  have hfl:(e.subs.flatMap (cP e)).length<=e.subs.length:=pj (nC e) _
  split
  ·refine Nat.le_trans (oA _ _) ?_
   show (e.subs.flatMap (cP e)).length+e.own.length+3<=64
   omega
  refine Nat.le_trans (oA _ _) ?_
  show 0+e.own.length+3<=64
  omega
 simp
theorem gM {e:EndD} {t:List UInt8} (h:e.out.text.length<=1048576):(cf e t).1.out.text.length<=1048576:=by
 rw [cf];split
 ·dsimp only
  rw [bZ];split
  ·rename_i ho
   simp only [jP,Bool.and_eq_true] at ho
   have F:=bQ ho.1
   have:=tX (t:=t) F
   have:=F.room
   dsimp only
   rw [KZ,K0]
   omega
  exact h
 exact h
theorem CI {e:EndD} {m:Int} (h:SmallP e.inp):(b_ e m).2.length<=1048576:=by
 have:=h.ready
 rw [b_];split
 ·dsimp only
  rw [aK];split
  ·dsimp only;rw [K0];omega
  simp
 simp
end
end Go.Proofs.YtdiiopjaebnmfaaGreat
