/-
  Texts merged for this claim by shake.py: what its proof needs.
-/
import Derived.Test.YtjghbknhneffjaaGreatZFnBaseL
import Derived.Test.YtjghbknhneffjaaGreatZFnBaseM
import Derived.Test.YtjghbknhneffjaaGreatZFnBaseN
import Derived.Test.YtjghbknhneffjaaGreatZFnB2A
import Derived.Test.YtjghbknhneffjaaGreatZFnB2D
set_option maxHeartbeats 16000000
set_option maxRecDepth 100000
set_option linter.unusedVariables false
set_option linter.unusedSimpArgs false
namespace Go.Proofs.YtjghbknhneffjaaGreat
section
open Go.RowKit
end
section
open Go.RowKit
section
variable {β β0':Be} {ρ:Rho} {N:Nat}
end
end
section
open Go.ChangeShapes Go.WideShapes Go.ChangeAt Go.RowKit
section
variable {H:Type} {enc:TypeId×Value->H} {P:Program} {w:World} {base:Nat} {held:Bool}
end
end
section
open Go.RowKit
theorem ep (e:EndD) (x:LetterD) (hs:Small e):aP 128 [.ag (e.cs 0),.ag x.cs] (e.hp false) (.tu [.ag ((ay e x).1.cs 7),.sc (.sl 14 0 (ay e x).2.length)])
  (e.hp false++((ay e x).1.hp true++[some ⟨(ay e x).2.map LetterD.cs,19,48,true,true⟩])):=by
 have hC:=(qH (jF e))
 have hK:=(qH (ap e))
 have hS:=a7 e (roadOf x) (by have:=hs.subs;omega)
 have hL:=a1 x
 have hbd:=fP e.subs (roadOf x)
 have hf:=Et (e:=e) (x:=x)
 have ht:=fun (n:Nat)=> @Eu e x n
 generalize ay e x=R at*
 refine qE Tryz.func128 Tryz.ntmps128 Tryz.results128 fun E hE=>?_
 refine qK (hC) (qI 0 7) ?_
 refine qD [0,1,2,3,4] ?_
 refine aQ (a5 x) [] ?_
 refine aQ (hS) (qI 0 7) ?_
 refine qG ?_
 rcases hbd with hk|⟨hb0,hb1⟩
 ·rw [hf (Do hk),hk]
  refine qD [0,1,2,3,4,5,6,7,8,9,10,11,12,13,14,15,16,17,18,19,20,21,22,23,24,25,26,27,28,29,30,31,32,33,34,35,36,37,38,39,40,41,42,43] ?_
  refine aQ (hK) (qI 0 7) ?_
  refine qB (fun h1=>?_) fun h1=>?_
  ·refine aQ (hL) [] ?_
   refine qB (fun h2=>?_) fun h2=>?_
   ·refine qB (fun h3=>?_) fun h3=>?_
    ·refine qG ?_
     exact qF (qI 0 7++qI 10 7++qO 1)
    refine qG ?_
    exact qF (qI 0 7++qI 10 7++qO 1)
   refine qG ?_
   exact qF (qI 0 7++qI 10 7++qO 1)
  refine qG ?_
  exact qF (qI 0 7++qI 10 7++qO 1)
 obtain⟨n,hk⟩:=Int.eq_ofNat_of_zero_le hb0
 have hn:n < e.subs.length:=by omega
 have ha:=Dn hk hn
 have hcmp:=TagD.cmp x.tag ⟨1,e.peer,e.key,x.nonce,e.subs[n].mine⟩
 simp only [TagD.cs,go_sem] at hcmp
 rw [hk]
 refine qD [0,1,2,3,4,5,6,7,8,9,10,11,12,13,14,15,16,17,18,19,20,21,22,23,24,25,26,27,28,29,30,31,32,33,34,35,36,37,38,39,40,41,42,43] ?_
 refine aQ (hK) (qI 0 7) ?_
 refine qB (fun h1=>?_) fun h1=>?_
 ·refine aQ (hL) [] ?_
  refine qB (fun h2=>?_) fun h2=>?_
  ·refine qB (fun h3=>?_) fun h3=>?_
   ·refine qB (fun h4=>?_) fun h4=>?_
    ·refine aQ (b8 _ _ _ _) [] ?_
     refine⟨qC,ac 400 ?_⟩
     try simp (disch:=omega) only [go_sem,seval,hcmp]
     refine qB (fun h5=>?_) fun h5=>?_
     ·rw [hf (by rw [ha];simp [h1,h2,h3,h4,h5])]
      refine qX ?_
      exact qF (qI 0 7++qI 10 7++qO 1)
     rw [ht _ (by rw [ha];simp [h1,h2,h3,h4,h5]) hk hn]
     refine qX ?_
     refine aO [(6,7)] [(qU [0,9]),[0,1,2,3,4,5,7,6,8]] (by kernel_rfl) (qC) (by kernel_rfl) ?_
     simp only [bm]
     refine⟨aa 400 ?_,aa 400 ?_⟩
     all_goals simp (disch:=omega) only [go_sem,seval]
     all_goals
      refine aQ (dn e (mD e.subs[n] x)) (qI 0 7) ?_
      refine qG ?_
      refine qP (qI 0 7++qI 10 7++qI 18 1) ?_
      first|exact⟨⟩|simp [List.map_set,SubD.cs,mD,cb,aq,LetterD.cs]
    rw [hf (by rw [ha];simp [h1,h2,h3,h4])]
    refine qG ?_
    exact qF (qI 0 7++qI 10 7++qO 1)
   rw [hf (by rw [ha];simp [h1,h2,h3])]
   refine qG ?_
   exact qF (qI 0 7++qI 10 7++qO 1)
  rw [hf (by rw [ha];simp [h1,h2])]
  refine qG ?_
  exact qF (qI 0 7++qI 10 7++qO 1)
 rw [hf (by rw [ha];simp [h1])]
 refine qG ?_
 exact qF (qI 0 7++qI 10 7++qO 1)
end
end Go.Proofs.YtjghbknhneffjaaGreat
