/-
  Texts merged for this claim by shake.py: what its proof needs.
-/
import Derived.Test.YtjghbknhneffjaaGreatZFnBaseL
import Derived.Test.YtjghbknhneffjaaGreatZFnBaseM
import Derived.Test.YtjghbknhneffjaaGreatZFnBaseN
import Derived.Test.YtjghbknhneffjaaGreatZFnB2A
import Derived.Test.YtjghbknhneffjaaGreatZFnB2B
set_option maxHeartbeats 16000000
set_option maxRecDepth 100000
set_option linter.unusedVariables false
set_option linter.unusedSimpArgs false
namespace Go.Proofs.YtjghbknhneffjaaGreat
section
open Go.RowKit
section
variable {P:Program} {β:Be} {s:S} {a:Act} {w:World} {o:Oper} {r:OpR} {ty:TypeId}
end
end
section
open Go.RowKit
theorem bp (e:EndD):aP 193 [.ag (e.cs 0)] (e.hp false) (.sc (.bo (bj e.draw 1 999999996))) (e.hp false):=by
 refine qE Tryz.func193 Tryz.ntmps193 Tryz.results193 fun E hE=>?_
 refine qK (Bg _ _ _) [] ?_
 exact qF (qI 0 7)
theorem n3 (n:Int):aP 195 [.sc (.int .i64 n)] [] (.sc (.sl 0 0 1)) [some ⟨(dO n).map AddrD.cs,4,103,true,true⟩]:=by
 refine qE Tryz.func195 Tryz.ntmps195 Tryz.results195 fun E hE=>?_
 refine qJ (qI 0 1) ?_
 rfl
theorem b9 (e:EndD) (h:bj e.draw 1 999999996=true):aP 194 [.sc (.pt 7 0 0)] (e.hp false++[some ⟨[e.cs 0],25,38,true,false⟩]) (.tu [.sc (.int .i64 e.draw),.sc (.int .i64 (e.draw+2))])
  (e.hp false++[some ⟨[EndD.cs { e with draw:=e.draw+4 } 0],25,38,true,false⟩]):=by
 simp only [bj,Bool.and_eq_true,decide_eq_true_eq] at h
 refine qE Tryz.func194 Tryz.ntmps194 Tryz.results194 fun E hE=>?_
 exact qF (qI 0 8)
theorem fn (e:EndD) (x:LetterD) (hs:Small e):aP 125 [.ag (e.cs 0),.ag x.cs] (e.hp false) (.tu [.ag ((ax e x).1.cs 7),.sc (.sl 14 0 (ax e x).2.length)])
  (e.hp false++((ax e x).1.hp true++[some ⟨(ax e x).2.map LetterD.cs,19,48,true,true⟩])):=by
 have hC:=(qH (jF e))
 have hK:=(qH (ap e))
 have hO:=cl e x.to (by have:=hs.own;omega)
 have hS:=a7 e (roadOf x) (by have:=hs.subs;omega)
 have hf:=ro (e:=e) (x:=x)
 have ht:=rn (e:=e) (x:=x)
 have hk:=f8.eq_1 e x
 generalize ax e x=R at*
 refine qE Tryz.func125 Tryz.ntmps125 Tryz.results125 fun E hE=>?_
 refine qK (hC) (qI 0 7) ?_
 refine qK (a5 x) [] ?_
 refine qK (hK) (qI 0 7) ?_
 refine qB (fun h1=>?_) fun h1=>?_
 ·refine qK (a1 x) [] ?_
  refine qB (fun h2=>?_) fun h2=>?_
  ·refine qB (fun h3=>?_) fun h3=>?_
   ·refine qK (hO) (qI 0 7) ?_
    refine qB (fun h4=>?_) fun h4=>?_
    ·refine qK (Bg _ _ _) [] ?_
     refine qB (fun h5=>?_) fun h5=>?_
     ·refine qK (hS) (qI 0 7) ?_
      refine qB (fun h6=>?_) fun h6=>?_
      ·refine qB (fun h7=>?_) fun h7=>?_
       ·refine qK (bp e) (qI 0 7) ?_
        refine qB (fun h8=>?_) fun h8=>?_
        ·rw [hf (by rw [hk];first|(simp [h8];done)|(simp [h8];intros;omega))]
         exact qF (qI 0 7++qI 10 7++qO 1)
        rw [ht (by rw [hk];simp [h1,h2,h3,h4,h5,h8];omega)]
        refine qK (b9 e h8) (qI 10 8) ?_
        refine qK (n3 x.frm) [] ?_
        refine aO [(6,7)] [(qU [0,9]),[0,1,2,3,4,5,7,6,8]] (by kernel_rfl) (qC) (by kernel_rfl) ?_
        simp only [bm]
        refine⟨aa 400 ?_,aa 400 ?_⟩
        all_goals simp (disch:=omega) only [go_sem,seval]
        all_goals
         refine aQ (a0 (roadOf x) { ah with kind:=2,key:=e.draw,give:=e.draw+2 }) [] ?_
         refine qG ?_
         refine qP (qI 0 7++qI 10 1++qI 19 1++qI 21 1++qI 13 4++qI 22 1) ?_
         first|exact⟨⟩|simp [dO,SubD.cs,LetterD.cs,roadOf,aq,ah]
       rw [hf (by rw [hk];first|(simp [h7];done)|(simp [h7];intros;omega))]
       exact qF (qI 0 7++qI 10 7++qO 1)
      rw [hf (by rw [hk];first|(simp [h6];done)|(simp [h6];intros;omega))]
      exact qF (qI 0 7++qI 10 7++qO 1)
     rw [hf (by rw [hk];first|(simp [h5];done)|(simp [h5];intros;omega))]
     exact qF (qI 0 7++qI 10 7++qO 1)
    rw [hf (by rw [hk];first|(simp [h4];done)|(simp [h4];intros;omega))]
    exact qF (qI 0 7++qI 10 7++qO 1)
   rw [hf (by rw [hk];first|(simp [h3];done)|(simp [h3];intros;omega))]
   exact qF (qI 0 7++qI 10 7++qO 1)
  rw [hf (by rw [hk];first|(simp [h2];done)|(simp [h2];intros;omega))]
  exact qF (qI 0 7++qI 10 7++qO 1)
 rw [hf (by rw [hk];first|(simp [h1];done)|(simp [h1];intros;omega))]
 exact qF (qI 0 7++qI 10 7++qO 1)
end
end Go.Proofs.YtjghbknhneffjaaGreat
