/-
  Texts merged for this claim by shake.py: what its proof needs.
-/
import Derived.Test.YtjghbknhneffjaaGreatZFnB2K
import Derived.Test.YtjghbknhneffjaaGreatZFnB2L
set_option maxHeartbeats 16000000
set_option maxRecDepth 100000
set_option linter.unusedVariables false
set_option linter.unusedSimpArgs false
namespace Go.Proofs.YtjghbknhneffjaaGreat
section
open Go.RowKit
end
section
open Go.RowKit
section
variable {P:Program} {β:Be} {s:S} {a:Act} {w:World} {o:Oper} {r:OpR} {ty:TypeId}
end
end
section
open Go.RowKit
end
section
open Go.RowKit
def JZ (g:Nat) (tab:List (List UInt8)) (β:Be) (h:Hp) (w:World):Prop:=
 g < w.heap.size/\(∀ (j:Nat) (l:List UInt8),tab[j]? =some l->w.cell? ⟨g,j,none⟩=some (.string ⟨l.toArray⟩))/\¬ Own β h g
def GEq (g:Nat) (tab:List (List UInt8)) (E:Entry):Prop:=JZ g tab E.β E.h E.w
section
variable {P:Program} {g:Nat} {tab:List (List UInt8)}
theorem JZ.step {β β':Be} {h h':Hp} {w w':World} (hg:JZ g tab β h w) (hl:β.length=h.length) (hs:StepR β β' h h' w w'):JZ g tab β' h' w':=by
 have e:=hs.block g hg.1 hg.2.2
 refine⟨Nat.lt_of_lt_of_le hg.1 hs.size,fun j l hj=>?_,fun ho=>?_⟩
 ·have:=hg.2.1 j l hj
  simp only [World.cell?] at this⊢
  rw [e]
  exact this
 rcases hs.own hl ho with h|h
 ·exact hg.2.2 h
 exact absurd hg.1 (by omega)
def JO (P:Program) (g:Nat) (tab:List (List UInt8)) (f:FuncId) (args:List AV) (h:Hp) (res:AV) (h':Hp):Prop:=
 td P f/\∀ β w vs,JZ g tab β h w->HSim β h w->L2 (dG β) args vs->Calls P f vs.toArray w fun e w'=>∃ β' v,e=.returned v/\dG β' res v/\HSim β' h' w'/\StepR β β' h h' w w'
theorem JO.e {E:Entry} (hG:GEq g tab E) {f:FuncId} {args0 avs:List AV} {s h0':Hp} {res0:AV} (ct:JO P g tab f args0 [] res0 h0') (hm:ln [] args0 avs):xV P E f avs s (gO [] s.length res0) (cC [] [] h0' s):=by
 refine⟨ct.1,fun β w vs hl hst hs hvs=>?_⟩
 have hg:=JZ.step hG hl hst
 exact x7 [] hm (show fS [] s [] [] from trivial) rfl (fun vs h1 h2=>ct.2 _ w vs ⟨hg.1,hg.2.1,fun⟨o,ob,p,h,_⟩=>by simp at h⟩ h1 h2) hs hvs
end
end
section
open Go.RowKit
def hF (k s m:Int):ActD:=⟨k,s,0,m,[],⟨0,0,false,false⟩,ah⟩
attribute [go_sem] hF ah
def l1:Nat->WorldD->WorldD
 |0,w=>w
 |n+1,w=>if w.bag.length=0 then w else l1 n (iP w (hF 8 1 0)).1
def JF (w:WorldD):WorldD:=(iP (iP (iP w (hF 4 1 0)).1 (hF 3 1 0)).1 (hF 3 2 0)).1
def wB (w:WorldD):WorldD:=(iP (iP w (hF 2 1 200)).1 (hF 2 2 200)).1
def hP (w:WorldD):WorldD:=wB (l1 400 (JF w))
def wr:Nat->WorldD->WorldD
 |0,w=>w
 |n+1,w=>wr n (hP w)
def hH (w:WorldD) (n:Int):WorldD:=wr (min n 60).toNat w
theorem JA {w:WorldD} {a:ActD} {k:Nat} (h:GoodW w k) (h1:¬ a.kind=1) (h2:¬ a.kind=2):GoodW (gD w a) k:=by
 rw [gD,if_neg h1,if_neg h2];exact h
theorem hO {w:WorldD} {a:ActD} {k:Nat} (h:GoodW w k) (h1:¬ a.kind=1) (h2:¬ a.kind=2):GoodW (iP w a).1 k:=by
 have hb:=uN w.bag a.pos h.r.bag
 have hl:=h.r.bag
 unfold iP;split
 ·split
  ·unfold eX;split
   ·exact h
   exact nq (lj (JA h h1 h2) (xq (jd h)))
  unfold ce;repeat' split
  all_goals first
   |exact h
   |exact uM (nr h hb)
   |exact nr h hb
   |exact nr h (by simp only [List.length_append,List.length_singleton];omega)
 exact h
theorem IU:∀ {n:Nat} {w:WorldD} {k:Nat},GoodW w k->GoodW (l1 n w) k
 |0,w,k,h=>h
 |n+1,w,k,h=>by
  rw [l1];split
  ·exact h
  exact IU (hO h (by simp [hF]) (by simp [hF]))
theorem JB {w:WorldD} {k:Nat} (h:GoodW w k):GoodW (JF w) k:=
 hO (hO (hO h (by simp [hF]) (by simp [hF])) (by simp [hF]) (by simp [hF])) (by simp [hF]) (by simp [hF])
theorem Jf {w:WorldD} {k:Nat} (h:GoodW w k):GoodW (wB w) (k+2):=B5 (B5 h (by simp [hF])) (by simp [hF])
theorem pr {w:WorldD} {k:Nat} (h:GoodW w k):GoodW (hP w) (k+2):=Jf (IU (JB h))
theorem IL:∀ {n:Nat} {w:WorldD} {k:Nat},GoodW w k->GoodW (wr n w) (k+2*n)
 |0,w,k,h=>h
 |n+1,w,k,h=>by
  have:=IL (n:=n) (pr h)
  rw [show k+2*(n+1)=k+2+2*n by omega];exact this
theorem IV {n k:Nat} {w:WorldD} (hk:k < n) (hb:¬ w.bag.length=0):l1 (n - k) w=l1 (n - (k+1)) (iP w (hF 8 1 0)).1:=by
 rw [show n - k=(n - (k+1))+1 by omega,l1,if_neg hb]
theorem I2 {n k:Nat} {w:WorldD} (h:n<=k\/w.bag.length=0):l1 (n - k) w=w:=by
 rcases Nat.eq_zero_or_pos (n - k) with h0|h0
 ·rw [h0];rfl
 rw [show n - k=(n - k - 1)+1 by omega,l1,if_pos (by omega)]
end
end Go.Proofs.YtjghbknhneffjaaGreat
