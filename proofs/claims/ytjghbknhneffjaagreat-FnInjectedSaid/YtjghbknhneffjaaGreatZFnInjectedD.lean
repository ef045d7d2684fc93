/-
  Texts merged for this claim by shake.py: what its proof needs.
-/
import Derived.Test.YtjghbknhneffjaaGreatZFnBaseL
import Derived.Test.YtjghbknhneffjaaGreatZFnBaseM
import Derived.Test.YtjghbknhneffjaaGreatZFnBaseN
import Derived.Test.YtjghbknhneffjaaGreatZFnInjectedA
set_option maxHeartbeats 16000000
set_option maxRecDepth 100000
set_option linter.unusedVariables false
set_option linter.unusedSimpArgs false
namespace Go.Proofs.YtjghbknhneffjaaGreat
section
open Go.RowKit
section
variable {P:Program} {β:Be} {s:S} {a:Act} {w:World} {o:Oper} {r:OpR} {ty:TypeId}
end
end
section
open Go.RowKit
section
variable {P:Program} {β:Be} {s:S} {a:Act} {w:World} {o:Oper} {r:OpR} {ty:TypeId}
end
end
section
open Go.RowKit
end
section
open Go.RowKit
section
variable {P:Program} {β:Be} {s:S} {w:World} {tm:Array Value}
end
end
section
open Go.RowKit
end
section
open Go.ChangeShapes Go.WideShapes Go.ChangeAt Go.RowKit
section
variable {H:Type} {enc:TypeId×Value->H} {P:Program} {w:World} {base:Nat} {held:Bool}
end
end
section
end
section
end
section
open Go.RowKit
theorem m2 (e:EndD) (hl:e.subs.length<=1048576):aP 18 [.ag (e.cs 0)] (e.hp false) (.sc (.sl 7 0 (j0 e.subs).length)) (e.hp false++[some ⟨(j0 e.subs).map pM,1,3,true,true⟩]):=by
 refine qE Tryz.func18 Tryz.ntmps18 Tryz.results18 fun E hE=>?_
 refine jx 7 hE (fun s (x:Nat×List Nat)=>s.at (qU [0,2,4,3,10,12]) [(9,.sc (.int .i64 (x.1:Nat))),(3,.sc (.sl 8 0 x.2.length))] (e.hp false++[some ⟨[e.cs 0],25,38,true,false⟩,some ⟨x.2.map pM,1,3,true,true⟩])) (fun (x:Nat×List Nat)=>x.1<=e.subs.length/\x.2.length<=x.1/\x.2++iY x.1 (e.subs.drop x.1)=j0 e.subs) (fun (x:Nat×List Nat)=>e.subs.length - x.1) (0,[]) (qI 0 8++qO 1) (⟨Nat.zero_le _,Nat.zero_le _,rfl⟩) fun x hx N hN=>?_
 obtain⟨k,acc⟩:=x
 obtain⟨hk1,hk2,hk3⟩:=hx
 dsimp only at hk1 hk2 hk3
 refine qR ?_
 refine qB (fun h=>?_) fun h=>?_
 ·rw [wC h] at hk3
  refine qX ?_
  refine qB (fun h2=>?_) fun h2=>?_
  ·rw [if_pos h2] at hk3
   refine⟨qC,hN _ (k+1,acc++[k]) (qI 0 8++qI 11 1) (by (try dsimp only);exact⟨by omega,by simp;omega,by simpa using hk3⟩) (by (try dsimp only);omega) (bw (by rfl) (by rfl) ?_)⟩
   refine qX ?_
   simp [pM]
  rw [if_neg h2] at hk3
  exact qN hN (k+1,acc) (qI 0 9) (by (try dsimp only);exact⟨by omega,by omega,hk3⟩)
 rw [List.drop_eq_nil_of_le (by omega),iY,List.append_nil] at hk3
 subst hk3
 exact qF (qI 0 7++qI 8 1)
theorem Gf {s t:SubD} {on:Bool} (h:¬ t.road.own=s.road.far\/¬ t.road.far=s.road.own\/¬ t.road.port=s.road.port):p6 s on t=false:=by
 rw [p6]
 rcases h with h|h|h<;>simp [h]
theorem Gg {s t:SubD} {on:Bool} (h:¬ t.take=s.give):p6 s on t=false:=by simp [p6,h]
theorem Gh {s t:SubD} {on:Bool} (h:¬ t.give=s.take):p6 s on t=false:=by simp [p6,h]
theorem FT {s t:SubD} {on:Bool} (h1:t.road.own=s.road.far/\t.road.far=s.road.own/\t.road.port=s.road.port) (h2:t.take=s.give) (h3:t.give=s.take) (h4:on=false\/t.state=3):p6 s on t=true:=by
 rw [p6]
 obtain⟨a,b,c⟩:=h1
 rcases h4 with h4|h4<;>simp [a,b,c,h2,h3,h4]
theorem FE (r:RoadD):aP 79 [.ag r.cs] [] (.ag (RoadD.cs ⟨r.far,r.own,r.port⟩)) []:=by
 refine qE Tryz.func79 Tryz.ntmps79 Tryz.results79 fun E hE=>?_
 exact qF []
theorem Gi {P:SubD->Bool} {l:List SubD} {k:Nat} {r:Bool} (h:k < l.length) (hr:(false || (l.drop k).any P)=r):(P l[k] || (l.drop (k+1)).any P)=r:=by
 rw [<-hr,fM h,Bool.false_or]
theorem E0 (a b:EndD) (h1:a.subs.length<=1048576) (h2:b.subs.length<=1048576):aP 52 [.ag (a.cs 0),.ag (b.cs 7)] (a.hp false++b.hp false) (.sc (.bo (p7 a b))) (a.hp false++b.hp false):=by
 refine fc Tryz.func52 (by kernel_rfl) rfl fun E hE=>ac 400 ?_
 simp (disch:=omega) only [Tryz.ntmps52,Tryz.results52,go_sem,seval]
 refine gN 14 hE (fun s (k:Nat)=>s.at (qU [0,2,4,1,6,57]) [(5,.sc (.int .i64 (k:Nat)))] (s.hp)) (fun (k:Nat)=>k<=a.subs.length/\(a.subs.drop k).all (fun s=>s.state != 3 || np b.subs false s)=p7 a b) (fun (k:Nat)=>a.subs.length - k) 0 (qI 0 16) (qC) (⟨Nat.zero_le _,rfl⟩) (bw (by rfl) (by rfl) ?_) fun k hk N hN=>?_
 ·try simp (disch:=omega) only [go_sem,seval]
 obtain⟨hk1,hk2⟩:=hk
 refine ac 400 ?_
 try simp (disch:=omega) only [go_sem,seval]
 split<;>rename_i h<;>(try simp only [beq_true,beq_false,Bool.not_eq_true',Bool.not_eq_false'] at h)<;>simp (disch:=omega) only [go_sem,seval,h]<;>(try simp only [decide_eq_true_eq,decide_eq_false_iff_not,beq_iff_eq,beq_eq_false_iff_ne,bne_iff_ne,bne_eq_false_iff_eq,ne_eq,Decidable.not_not,Bool.and_eq_true,Bool.and_eq_false_iff,Bool.or_eq_true,Bool.or_eq_false_iff,Int.ofNat_lt,Int.ofNat_le,Bool.not_eq_eq_eq_not,Bool.not_true,Bool.not_false] at h)<;>try simp (disch:=omega) only [go_sem,seval]
 ·rw [yC h] at hk2
  generalize hR:(a.subs[k].state != 3 || np b.subs false a.subs[k])=r at hk2
  obtain⟨q,hq⟩:∃ q,q=(a.subs[k].state != 3):=⟨_,rfl⟩
  try simp (disch:=omega) only [go_sem,seval]
  try rw [<-hq]
  refine gN 14 hE (fun s (y:Nat×Bool)=>s.at (qU [0,2,9,5,15,47]) [(8,.sc (.int .i64 (y.1:Nat))),(7,.sc (.bo y.2))] (s.hp)) (fun (y:Nat×Bool)=>y.1<=b.subs.length/\(y.2 || (b.subs.drop y.1).any (p6 a.subs[k] false))=r) (fun (y:Nat×Bool)=>b.subs.length - y.1) (0,q) (qI 0 17) (qC) (⟨Nat.zero_le _,by rw [hq];exact hR⟩) (bw (by rfl) (by rfl) ?_) fun y hy N2 hN2=>?_
  ·try simp (disch:=omega) only [go_sem,seval]
   try exact⟨rfl,hq⟩
  obtain⟨j,has⟩:=y
  obtain⟨hy1,hy2⟩:=hy
  dsimp only at hy1 hy2
  refine ac 400 ?_
  cases has with
  |true=>
   rw [Bool.true_or] at hy2
   subst hy2
   have hkk:(true && (List.drop (k+1) a.subs).all fun s=>s.state != 3 || np b.subs false s)=p7 a b:=hk2
   try simp (disch:=omega) only [go_sem,seval]
   split<;>rename_i h4<;>(try simp only [beq_true,beq_false,Bool.not_eq_true',Bool.not_eq_false'] at h4)<;>simp (disch:=omega) only [go_sem,seval,h4]<;>(try simp only [decide_eq_true_eq,decide_eq_false_iff_not,beq_iff_eq,beq_eq_false_iff_ne,bne_iff_ne,bne_eq_false_iff_eq,ne_eq,Decidable.not_not,Bool.and_eq_true,Bool.and_eq_false_iff,Bool.or_eq_true,Bool.or_eq_false_iff,Int.ofNat_lt,Int.ofNat_le,Bool.not_eq_eq_eq_not,Bool.not_true,Bool.not_false] at h4)<;>try simp (disch:=omega) only [go_sem,seval]
   ·refine⟨qC,hN _ (k+1) (qI 0 16) (by (try dsimp only);exact⟨by omega,hkk⟩) (by (try dsimp only);omega) (bw (by rfl) (by rfl) ?_)⟩
    try simp (disch:=omega) only [go_sem,seval]
   refine⟨qC,hN _ (k+1) (qI 0 16) (by (try dsimp only);exact⟨by omega,hkk⟩) (by (try dsimp only);omega) (bw (by rfl) (by rfl) ?_)⟩
   try simp (disch:=omega) only [go_sem,seval]
  |false=>
   try simp (disch:=omega) only [go_sem,seval]
   split<;>rename_i h4<;>(try simp only [beq_true,beq_false,Bool.not_eq_true',Bool.not_eq_false'] at h4)<;>simp (disch:=omega) only [go_sem,seval,h4]<;>(try simp only [decide_eq_true_eq,decide_eq_false_iff_not,beq_iff_eq,beq_eq_false_iff_ne,bne_iff_ne,bne_eq_false_iff_eq,ne_eq,Decidable.not_not,Bool.and_eq_true,Bool.and_eq_false_iff,Bool.or_eq_true,Bool.or_eq_false_iff,Int.ofNat_lt,Int.ofNat_le,Bool.not_eq_eq_eq_not,Bool.not_true,Bool.not_false] at h4)<;>try simp (disch:=omega) only [go_sem,seval]
   ·have hy3:=Gi h4 hy2
    refine iu (qU [0,21]) (by kernel_rfl) (qC) (by kernel_rfl) (aa 400 ?_)
    simp (disch:=omega) only [go_sem,seval]
    refine it (qC) (FE a.subs[k].road) [] qM (by rfl) (by rfl) (aa 400 ?_)
    simp (disch:=omega) only [go_sem,seval]
    split<;>rename_i h5<;>(try simp only [beq_true,beq_false,Bool.not_eq_true',Bool.not_eq_false'] at h5)<;>simp (disch:=omega) only [go_sem,seval,h5]<;>(try simp only [decide_eq_true_eq,decide_eq_false_iff_not,beq_iff_eq,beq_eq_false_iff_ne,bne_iff_ne,bne_eq_false_iff_eq,ne_eq,Decidable.not_not,Bool.and_eq_true,Bool.and_eq_false_iff,Bool.or_eq_true,Bool.or_eq_false_iff,Int.ofNat_lt,Int.ofNat_le,Bool.not_eq_eq_eq_not,Bool.not_true,Bool.not_false] at h5)<;>try simp (disch:=omega) only [go_sem,seval]
    ·split<;>rename_i h6<;>(try simp only [beq_true,beq_false,Bool.not_eq_true',Bool.not_eq_false'] at h6)<;>simp (disch:=omega) only [go_sem,seval,h6]<;>(try simp only [decide_eq_true_eq,decide_eq_false_iff_not,beq_iff_eq,beq_eq_false_iff_ne,bne_iff_ne,bne_eq_false_iff_eq,ne_eq,Decidable.not_not,Bool.and_eq_true,Bool.and_eq_false_iff,Bool.or_eq_true,Bool.or_eq_false_iff,Int.ofNat_lt,Int.ofNat_le,Bool.not_eq_eq_eq_not,Bool.not_true,Bool.not_false] at h6)<;>try simp (disch:=omega) only [go_sem,seval]
     ·refine⟨qC,ac 400 ?_⟩
      try simp (disch:=omega) only [go_sem,seval]
      cases hg:(b.subs[j].give == a.subs[k].take) with
      |true=>
       have hg':b.subs[j].give=a.subs[k].take:=by simpa using hg
       rw [FT h5 h6 hg' (.inl rfl)] at hy3
       try simp (disch:=omega) only [go_sem,seval,hg]
       refine⟨qC,hN2 _ (j+1,true) (qI 0 17) (by (try dsimp only);exact⟨by omega,hy3⟩) (by (try dsimp only);omega) (bw (by rfl) (by rfl) ?_)⟩
       try simp (disch:=omega) only [go_sem,seval,hg]
      |false=>
       have hg':¬ b.subs[j].give=a.subs[k].take:=by simpa using hg
       rw [Gh hg'] at hy3
       try simp (disch:=omega) only [go_sem,seval,hg]
       refine⟨qC,hN2 _ (j+1,false) (qI 0 17) (by (try dsimp only);exact⟨by omega,hy3⟩) (by (try dsimp only);omega) (bw (by rfl) (by rfl) ?_)⟩
       try simp (disch:=omega) only [go_sem,seval,hg]
     rw [Gg h6] at hy3
     refine⟨qC,ac 400 ?_⟩
     try simp (disch:=omega) only [go_sem,seval]
     refine⟨qC,hN2 _ (j+1,false) (qI 0 17) (by (try dsimp only);exact⟨by omega,hy3⟩) (by (try dsimp only);omega) (bw (by rfl) (by rfl) ?_)⟩
     try simp (disch:=omega) only [go_sem,seval]
    rw [Gf h5] at hy3
    refine⟨qC,ac 400 ?_⟩
    try simp (disch:=omega) only [go_sem,seval]
    refine⟨qC,hN2 _ (j+1,false) (qI 0 17) (by (try dsimp only);exact⟨by omega,hy3⟩) (by (try dsimp only);omega) (bw (by rfl) (by rfl) ?_)⟩
    try simp (disch:=omega) only [go_sem,seval]
   rw [fu (by omega)] at hy2
   rw [<-hy2] at hk2
   refine aB (qI 0 14) (qC) _ (by simp only [go_sem];rfl) (by rfl) (by rfl) ?_
   simp (disch:=omega) only [go_sem,seval]
   exact hk2
 rw [p0 (by omega)] at hk2
 refine aB (qI 0 14) (qC) _ (by simp only [go_sem];rfl) (by rfl) (by rfl) ?_
 simp (disch:=omega) only [go_sem,seval]
 exact hk2
theorem bp (e:EndD):aP 193 [.ag (e.cs 0)] (e.hp false) (.sc (.bo (bj e.draw 1 999999996))) (e.hp false):=by
 refine qE Tryz.func193 Tryz.ntmps193 Tryz.results193 fun E hE=>?_
 refine qK (Bg _ _ _) [] ?_
 exact qF (qI 0 7)
theorem n3 (n:Int):aP 195 [.sc (.int .i64 n)] [] (.sc (.sl 0 0 1)) [some ⟨(dO n).map AddrD.cs,4,103,true,true⟩]:=by
 refine qE Tryz.func195 Tryz.ntmps195 Tryz.results195 fun E hE=>?_
 refine qJ (qI 0 1) ?_
 rfl
theorem b9 (e:EndD) (h:bj e.draw 1 999999996=true):aP 194 [.sc (.pt 7 0 0)] (e.hp false++[some ⟨[e.cs 0],25,38,true,false⟩]) (.tu [.sc (.int .i64 e.draw),.sc (.int .i64 (e.draw+2))])
  (e.hp false++[some ⟨[EndD.cs { e with draw:=e.draw+4 } 0],25,38,true,false⟩]):=by
 simp only [bj,Bool.and_eq_true,decide_eq_true_eq] at h
 refine qE Tryz.func194 Tryz.ntmps194 Tryz.results194 fun E hE=>?_
 exact qF (qI 0 8)
theorem fn (e:EndD) (x:LetterD) (hs:Small e):aP 125 [.ag (e.cs 0),.ag x.cs] (e.hp false) (.tu [.ag ((ax e x).1.cs 7),.sc (.sl 14 0 (ax e x).2.length)])
  (e.hp false++((ax e x).1.hp true++[some ⟨(ax e x).2.map LetterD.cs,19,48,true,true⟩])):=by
 have hC:=(qH (jF e))
 have hK:=(qH (ap e))
 have hO:=cl e x.to (by have:=hs.own;omega)
 have hS:=a7 e (roadOf x) (by have:=hs.subs;omega)
 have hf:=ro (e:=e) (x:=x)
 have ht:=rn (e:=e) (x:=x)
 have hk:=f8.eq_1 e x
 generalize ax e x=R at*
 refine qE Tryz.func125 Tryz.ntmps125 Tryz.results125 fun E hE=>?_
 refine qK (hC) (qI 0 7) ?_
 refine qK (a5 x) [] ?_
 refine qK (hK) (qI 0 7) ?_
 refine qB (fun h1=>?_) fun h1=>?_
 ·refine qK (a1 x) [] ?_
  refine qB (fun h2=>?_) fun h2=>?_
  ·refine qB (fun h3=>?_) fun h3=>?_
   ·refine qK (hO) (qI 0 7) ?_
    refine qB (fun h4=>?_) fun h4=>?_
    ·refine qK (Bg _ _ _) [] ?_
     refine qB (fun h5=>?_) fun h5=>?_
     ·refine qK (hS) (qI 0 7) ?_
      refine qB (fun h6=>?_) fun h6=>?_
      ·refine qB (fun h7=>?_) fun h7=>?_
       ·refine qK (bp e) (qI 0 7) ?_
        refine qB (fun h8=>?_) fun h8=>?_
        ·rw [hf (by rw [hk];first|(simp [h8];done)|(simp [h8];intros;omega))]
         exact qF (qI 0 7++qI 10 7++qO 1)
        rw [ht (by rw [hk];simp [h1,h2,h3,h4,h5,h8];omega)]
        refine qK (b9 e h8) (qI 10 8) ?_
        refine qK (n3 x.frm) [] ?_
        refine aO [(6,7)] [(qU [0,9]),[0,1,2,3,4,5,7,6,8]] (by kernel_rfl) (qC) (by kernel_rfl) ?_
        simp only [bm]
        refine⟨aa 400 ?_,aa 400 ?_⟩
        all_goals simp (disch:=omega) only [go_sem,seval]
        all_goals
         refine aQ (a0 (roadOf x) { ah with kind:=2,key:=e.draw,give:=e.draw+2 }) [] ?_
         refine qG ?_
         refine qP (qI 0 7++qI 10 1++qI 19 1++qI 21 1++qI 13 4++qI 22 1) ?_
         first|exact⟨⟩|simp [dO,SubD.cs,LetterD.cs,roadOf,aq,ah]
       rw [hf (by rw [hk];first|(simp [h7];done)|(simp [h7];intros;omega))]
       exact qF (qI 0 7++qI 10 7++qO 1)
      rw [hf (by rw [hk];first|(simp [h6];done)|(simp [h6];intros;omega))]
      exact qF (qI 0 7++qI 10 7++qO 1)
     rw [hf (by rw [hk];first|(simp [h5];done)|(simp [h5];intros;omega))]
     exact qF (qI 0 7++qI 10 7++qO 1)
    rw [hf (by rw [hk];first|(simp [h4];done)|(simp [h4];intros;omega))]
    exact qF (qI 0 7++qI 10 7++qO 1)
   rw [hf (by rw [hk];first|(simp [h3];done)|(simp [h3];intros;omega))]
   exact qF (qI 0 7++qI 10 7++qO 1)
  rw [hf (by rw [hk];first|(simp [h2];done)|(simp [h2];intros;omega))]
  exact qF (qI 0 7++qI 10 7++qO 1)
 rw [hf (by rw [hk];first|(simp [h1];done)|(simp [h1];intros;omega))]
 exact qF (qI 0 7++qI 10 7++qO 1)
theorem oi (o:OutD) (n:Int):aP 214 [.ag o.cs,.sc (.int .i64 n)] [] (.ag (nI o n).cs) []:=by
 obtain⟨R,hR⟩:∃ R,R=nI o n:=⟨_,rfl⟩
 rw [<-hR]
 refine fc Tryz.func214 (by kernel_rfl) rfl fun E hE=>ac 400 ?_
 simp (disch:=omega) only [Tryz.ntmps214,Tryz.results214,go_sem,seval]
 refine bc (qC) (c9 o) [] qM (by rfl) (ac 400 ?_)
 simp (disch:=omega) only [go_sem,seval]
 split<;>rename_i h1<;>(try simp only [beq_true,beq_false,Bool.not_eq_true',Bool.not_eq_false'] at h1)<;>simp (disch:=omega) only [go_sem,seval,h1]<;>(try simp only [decide_eq_true_eq,decide_eq_false_iff_not,beq_iff_eq,beq_eq_false_iff_ne,bne_iff_ne,bne_eq_false_iff_eq,ne_eq,Decidable.not_not,Bool.and_eq_true,Bool.and_eq_false_iff,Bool.or_eq_true,Bool.or_eq_false_iff,Int.ofNat_lt,Int.ofNat_le,Bool.not_eq_eq_eq_not,Bool.not_true,Bool.not_false] at h1)<;>try simp (disch:=omega) only [go_sem,seval]
 ·have h1':=h1
  simp only [outOk,gA,bj,Bool.and_eq_true,decide_eq_true_eq] at h1'
  obtain⟨⟨⟨⟨b0,b1⟩,r0,r1⟩,t0⟩,s0,s1⟩:=h1'
  rw [ym (by omega)] at s1
  split<;>rename_i h2<;>(try simp only [beq_true,beq_false,Bool.not_eq_true',Bool.not_eq_false'] at h2)<;>simp (disch:=omega) only [go_sem,seval,h2]<;>(try simp only [decide_eq_true_eq,decide_eq_false_iff_not,beq_iff_eq,beq_eq_false_iff_ne,bne_iff_ne,bne_eq_false_iff_eq,ne_eq,Decidable.not_not,Bool.and_eq_true,Bool.and_eq_false_iff,Bool.or_eq_true,Bool.or_eq_false_iff,Int.ofNat_lt,Int.ofNat_le,Bool.not_eq_eq_eq_not,Bool.not_true,Bool.not_false] at h2)<;>try simp (disch:=omega) only [go_sem,seval]
  ·split<;>rename_i h3<;>(try simp only [beq_true,beq_false,Bool.not_eq_true',Bool.not_eq_false'] at h3)<;>simp (disch:=omega) only [go_sem,seval,h3]<;>(try simp only [decide_eq_true_eq,decide_eq_false_iff_not,beq_iff_eq,beq_eq_false_iff_ne,bne_iff_ne,bne_eq_false_iff_eq,ne_eq,Decidable.not_not,Bool.and_eq_true,Bool.and_eq_false_iff,Bool.or_eq_true,Bool.or_eq_false_iff,Int.ofNat_lt,Int.ofNat_le,Bool.not_eq_eq_eq_not,Bool.not_true,Bool.not_false] at h3)<;>try simp (disch:=omega) only [go_sem,seval]
   ·rw [nI,if_neg (by rw [ym (by omega)];omega)] at hR
    subst hR
    refine aB [] (qC) _ (by simp only [go_sem];rfl) (by rfl) (by rfl) ?_
    simp (disch:=omega) only [go_sem,seval]
   rw [nI,if_pos ⟨h1,by omega,by rw [ym (by omega)];omega⟩] at hR
   subst hR
   by_cases h4:o.sent < n
   ·try simp (disch:=omega) only [go_sem,seval,h4]
    refine aB [] (qC) _ (by simp only [go_sem];rfl) (by rfl) (by rfl) ?_
    simp (disch:=omega) only [go_sem,seval]
    all_goals (try simp only [h4,if_true,if_false,go_sem])
    all_goals (repeat' first|rfl|constructor)
    try simp
   try simp (disch:=omega) only [go_sem,seval,h4]
   refine aB [] (qC) _ (by simp only [go_sem];rfl) (by rfl) (by rfl) ?_
   simp (disch:=omega) only [go_sem,seval]
   all_goals (try simp only [h4,if_true,if_false,go_sem])
   all_goals (repeat' first|rfl|constructor)
   try simp
  rw [nI,if_neg (by omega)] at hR
  subst hR
  refine aB [] (qC) _ (by simp only [go_sem];rfl) (by rfl) (by rfl) ?_
  simp (disch:=omega) only [go_sem,seval]
 rw [nI,if_neg (by simp [h1])] at hR
 subst hR
 refine aB [] (qC) _ (by simp only [go_sem];rfl) (by rfl) (by rfl) ?_
 simp (disch:=omega) only [go_sem,seval]
theorem fs (e:EndD) (x:LetterD) (hs:Small e):aP 136 [.ag (e.cs 0),.ag x.cs] (e.hp false) (.tu [.ag ((bf e x).1.cs 7),.sc (.sl 14 0 (bf e x).2.length)])
  (e.hp false++((bf e x).1.hp true++[some ⟨(bf e x).2.map LetterD.cs,19,48,true,true⟩])):=by
 have hC:=(qH (jF e))
 have hK:=(qH (ap e))
 have hS:=a6 e x (by have:=hs.subs;omega)
 have hbd:=rp e x
 have hL:=a1 x
 have hf:=rq (e:=e) (x:=x)
 have ht:=fun (n:Nat)=> @rr e x n
 generalize bf e x=R at*
 refine qE Tryz.func136 Tryz.ntmps136 Tryz.results136 fun E hE=>?_
 refine qK (hC) (qI 0 7) ?_
 refine qK (hS) (qI 0 7) ?_
 refine qK (hK) (qI 0 7) ?_
 refine qB (fun h1=>?_) fun h1=>?_
 ·refine qK (hL) [] ?_
  refine qB (fun h2=>?_) fun h2=>?_
  ·rcases hbd with hk|⟨hb0,hb1⟩
   ·rw [hf (a3 (by rintro⟨_,_,hh⟩;omega))]
    rw [hk]
    refine qX ?_
    exact qF (qI 0 7++qI 10 7++qO 1)
   obtain⟨n,hk⟩:=Int.eq_ofNat_of_zero_le hb0
   have hn:n < e.subs.length:=by omega
   rw [ht _ (ds h1 h2 hk) hk,gW hn,hk]
   have e1:=lG e.subs n { e.subs[n] with state:=4 }
   simp only [SubD.cs] at e1
   try simp (disch:=omega) only [go_sem,seval,e1]
   refine qP (qI 0 7++qI 10 7++qO 1) ?_
   first|exact⟨⟩|simp
  rw [hf (a3 (by rintro⟨_,hh,_⟩;rw [h2] at hh;cases hh))]
  refine qX ?_
  exact qF (qI 0 7++qI 10 7++qO 1)
 rw [hf (a3 (by rintro⟨hh,_⟩;rw [h1] at hh;cases hh))]
 refine qX ?_
 exact qF (qI 0 7++qI 10 7++qO 1)
theorem i0 (e:EndD) (x:LetterD) (hs:Small e):aP 135 [.ag (e.cs 0),.ag x.cs] (e.hp false) (.tu [.ag ((bA e x).1.cs 7),.sc (.sl 14 0 (bA e x).2.length)])
  (e.hp false++((bA e x).1.hp true++[some ⟨(bA e x).2.map LetterD.cs,19,48,true,true⟩])):=by
 have hC:=(qH (jF e))
 have hK:=(qH (ap e))
 have hS:=a6 e x (by have:=hs.subs;omega)
 have hbd:=rp e x
 have hL:=a1 x
 have hf:=tH (e:=e) (x:=x)
 have ht:= @tI e x
 generalize bA e x=R at*
 refine qE Tryz.func135 Tryz.ntmps135 Tryz.results135 fun E hE=>?_
 refine qK (hC) (qI 0 7) ?_
 refine qK (hK) (qI 0 7) ?_
 refine qB (fun h1=>?_) fun h1=>?_
 ·refine qK (hL) [] ?_
  refine qB (fun h2=>?_) fun h2=>?_
  ·refine qK (hS) (qI 0 7) ?_
   rcases hbd with hk|⟨hb0,hb1⟩
   ·rw [hf (a3 (by rintro⟨_,_,hh⟩;omega))]
    rw [hk]
    refine qX ?_
    exact qF (qI 0 7++qI 10 7++qO 1)
   obtain⟨n,hk⟩:=Int.eq_ofNat_of_zero_le hb0
   rw [ht (by rw [ds h1 h2 hk];omega),hk]
   refine qX ?_
   refine qK (oi e.out x.pos) [] ?_
   exact qF (qI 0 7++qI 10 7++qO 1)
  rw [hf (a3 (by rintro⟨_,hh,_⟩;rw [h2] at hh;cases hh))]
  refine qX ?_
  exact qF (qI 0 7++qI 10 7++qO 1)
 rw [hf (a3 (by rintro⟨hh,_⟩;rw [h1] at hh;cases hh))]
 refine qX ?_
 exact qF (qI 0 7++qI 10 7++qO 1)
theorem e4 (e:EndD) (x:LetterD) (hs:Small e):aP 130 [.ag (e.cs 0),.ag x.cs] (e.hp false) (.tu [.ag ((aE e x).1.cs 7),.sc (.sl 14 0 (aE e x).2.length)])
  (e.hp false++((aE e x).1.hp true++[some ⟨(aE e x).2.map LetterD.cs,19,48,true,true⟩])):=by
 have hC:=(qH (jF e))
 have hK:=(qH (ap e))
 have hS:=a7 e (roadOf x) (by have:=hs.subs;omega)
 have hL:=a1 x
 have hbd:=fP e.subs (roadOf x)
 have hf:=Dk (e:=e) (x:=x)
 have ht:=fun (n:Nat)=> @Dl e x n
 generalize aE e x=R at*
 refine qE Tryz.func130 Tryz.ntmps130 Tryz.results130 fun E hE=>?_
 refine qK (hC) (qI 0 7) ?_
 refine qD [0,1,2,3,4] ?_
 refine aQ (a5 x) [] ?_
 refine aQ (hS) (qI 0 7) ?_
 refine qG ?_
 rcases hbd with hk|⟨hb0,hb1⟩
 ·rw [hf (BJ hk),hk]
  refine qD [0,1,2,3,4,5,6,7,8,9,10,11,12,13,14,15,16,17,18,19,20,21,22,23,24,25,26,27,28,29] ?_
  refine aQ (hK) (qI 0 7) ?_
  refine qB (fun h1=>?_) fun h1=>?_
  ·refine aQ (hL) [] ?_
   refine qB (fun h2=>?_) fun h2=>?_
   ·refine qG ?_
    exact qF (qI 0 7++qI 10 7++qO 1)
   refine qG ?_
   exact qF (qI 0 7++qI 10 7++qO 1)
  refine qG ?_
  exact qF (qI 0 7++qI 10 7++qO 1)
 obtain⟨n,hk⟩:=Int.eq_ofNat_of_zero_le hb0
 have hn:n < e.subs.length:=by omega
 have ha:=BI hk hn
 rw [hk]
 refine qD [0,1,2,3,4,5,6,7,8,9,10,11,12,13,14,15,16,17,18,19,20,21,22,23,24,25,26,27,28,29] ?_
 refine aQ (hK) (qI 0 7) ?_
 refine qB (fun h1=>?_) fun h1=>?_
 ·refine aQ (hL) [] ?_
  refine qB (fun h2=>?_) fun h2=>?_
  ·refine qB (fun h3=>?_) fun h3=>?_
   ·refine qG ?_
    refine qB (fun h4=>?_) fun h4=>?_
    ·rw [ht _ (by rw [ha];simp [h1,h2,h3,h4]) hk,gW hn]
     have e1:=lG e.subs n { e.subs[n] with state:=3 }
     simp only [SubD.cs] at e1
     try simp (disch:=omega) only [go_sem,seval,e1]
     refine qP (qI 0 7++qI 10 7++qO 1) ?_
     first|exact⟨⟩|simp
    rw [hf (by rw [ha];simp [h1,h2,h3,h4])]
    refine qX ?_
    exact qF (qI 0 7++qI 10 7++qO 1)
   rw [hf (by rw [ha];simp [h1,h2,h3])]
   refine qG ?_
   exact qF (qI 0 7++qI 10 7++qO 1)
  rw [hf (by rw [ha];simp [h1,h2])]
  refine qG ?_
  exact qF (qI 0 7++qI 10 7++qO 1)
 rw [hf (by rw [ha];simp [h1])]
 refine qG ?_
 exact qF (qI 0 7++qI 10 7++qO 1)
theorem ka (e:EndD) (x:LetterD) (hs:Small e):aP 126 [.ag (e.cs 0),.ag x.cs] (e.hp false) (.tu [.ag ((aS e x).1.cs 7),.sc (.sl 14 0 (aS e x).2.length)])
  (e.hp false++((aS e x).1.hp true++[some ⟨(aS e x).2.map LetterD.cs,19,48,true,true⟩])):=by
 have hC:=(qH (jF e))
 have hK:=(qH (ap e))
 have hS:=a7 e (roadOf x) (by have:=hs.subs;omega)
 have hL:=a1 x
 have hbd:=fP e.subs (roadOf x)
 have hf:=BK (e:=e) (x:=x)
 have ht:=fun (n:Nat)=> @BL e x n
 generalize aS e x=R at*
 refine qE Tryz.func126 Tryz.ntmps126 Tryz.results126 fun E hE=>?_
 refine qK (hC) (qI 0 7) ?_
 refine qK (a5 x) [] ?_
 refine qK (hS) (qI 0 7) ?_
 rcases hbd with hk|⟨hb0,hb1⟩
 ·rw [hf (AA hk),hk]
  refine qX ?_
  refine qK (hK) (qI 0 7) ?_
  refine qB (fun h1=>?_) fun h1=>?_
  ·refine qK (hL) [] ?_
   refine qB (fun h2=>?_) fun h2=>?_
   ·refine qB (fun h3=>?_) fun h3=>?_
    ·refine qX ?_
     exact qF (qI 0 7++qI 10 7++qO 1)
    refine qX ?_
    exact qF (qI 0 7++qI 10 7++qO 1)
   refine qX ?_
   exact qF (qI 0 7++qI 10 7++qO 1)
  refine qX ?_
  exact qF (qI 0 7++qI 10 7++qO 1)
 obtain⟨n,hk⟩:=Int.eq_ofNat_of_zero_le hb0
 have hn:n < e.subs.length:=by omega
 have ha:=Az hk hn
 rw [hk]
 refine qX ?_
 refine qK (hK) (qI 0 7) ?_
 refine qB (fun h1=>?_) fun h1=>?_
 ·refine qK (hL) [] ?_
  refine qB (fun h2=>?_) fun h2=>?_
  ·refine qB (fun h3=>?_) fun h3=>?_
   ·refine qB (fun h4=>?_) fun h4=>?_
    ·refine qK (Bg _ _ _) [] ?_
     refine qB (fun h5=>?_) fun h5=>?_
     ·rw [hf (by rw [ha];simp [h1,h2,h3,h4,h5])]
      refine qX ?_
      exact qF (qI 0 7++qI 10 7++qO 1)
     rw [ht _ (by rw [ha];simp [h1,h2,h3,h4,h5]) hk hn]
     have e1:=lG e.subs n { e.subs[n] with state:=3 }
     have e2:=lG (e.subs.set n { e.subs[n] with state:=3 }) n { e.subs[n] with state:=3,give:=x.give }
     rw [List.set_set] at e2
     simp only [SubD.cs] at e1 e2
     refine qX ?_
     refine qK (n3 x.frm) [] ?_
     try simp (disch:=omega) only [go_sem,seval,e1,e2]
     refine aO [(4,5)] [(qU [0,7]),[0,1,2,3,5,4,6]] (by kernel_rfl) (qC) (by kernel_rfl) ?_
     simp only [bm]
     refine⟨aa 400 ?_,aa 400 ?_⟩
     all_goals simp (disch:=omega) only [go_sem,seval]
     all_goals
      refine aQ (a0 (roadOf x) { ah with kind:=3 }) [] ?_
      refine qG ?_
      refine aB (qI 0 7++qI 10 1++qI 19 1++qI 12 5++qI 20 1) (qC) _ (by simp only [go_sem];rfl) (by rfl) (by rfl) ?_
      simp (disch:=omega) only [go_sem,seval]
      try simp [dO,SubD.cs,LetterD.cs,roadOf,aq,ah]
      try omega
    rw [hf (by rw [ha];simp [h1,h2,h3,h4])]
    refine qX ?_
    exact qF (qI 0 7++qI 10 7++qO 1)
   rw [hf (by rw [ha];simp [h1,h2,h3])]
   refine qX ?_
   exact qF (qI 0 7++qI 10 7++qO 1)
  rw [hf (by rw [ha];simp [h1,h2])]
  refine qX ?_
  exact qF (qI 0 7++qI 10 7++qO 1)
 rw [hf (by rw [ha];simp [h1])]
 refine qX ?_
 exact qF (qI 0 7++qI 10 7++qO 1)
theorem Pm {l:List UInt8} {k:Nat} {x:UInt8} (h:k < l.length) (hl:l.take k=List.replicate k x):(l.set k x).take (k+1)=List.replicate (k+1) x:=by
 rw [List.take_succ_eq_append_getElem (by simpa using h),List.getElem_set_self,List.take_set,List.set_eq_of_length_le (by rw [List.length_take];omega),hl,List.replicate_succ']
theorem Pn (l:List UInt8) (k:Nat) (x:UInt8):(l.map ew).set k [.int .u8 (x.toNat:Nat)]=(l.set k x).map ew:=by rw [List.map_set];rfl
theorem O0 (n:Nat) (x:UInt8) (hn:n<=5000):aP 104 [.sc (.int .i64 (n:Int)),.sc (.int .u8 (x.toNat:Nat))] [] (.sc (.st (List.replicate n x))) []:=by
 refine qE Tryz.func104 Tryz.ntmps104 Tryz.results104 fun E hE=>?_
 refine gN 0 hE (fun s (y:Nat×List UInt8)=>s.at (qU [7,11]) [(6,.sc (.int .i64 (y.1:Nat)))] ([some ⟨y.2.map ew,1,5,true,true⟩])) (fun (y:Nat×List UInt8)=>y.1<=n/\y.2.length=n/\y.2.take y.1=List.replicate y.1 x) (fun (y:Nat×List UInt8)=>n - y.1) (0,List.replicate n 0) (qI 0 1) (qC) (⟨Nat.zero_le _,by simp,by simp⟩) (bw (by rfl) (by rfl) ?_) fun y hy N hN=>?_
 ·try simp (disch:=omega) only [go_sem,seval]
  try simp [ew]
 obtain⟨k,l⟩:=y
 obtain⟨h1,h2,h3⟩:=hy
 dsimp only at h1 h2 h3
 refine qR ?_
 refine qB (fun h=>?_) fun h=>?_
 ·refine qX ?_
  refine⟨qC,hN _ (k+1,l.set k x) (qI 0 1) (by (try dsimp only);exact⟨by omega,by rw [List.length_set];exact h2,Pm (by omega) h3⟩) (by (try dsimp only);omega) (bw (by rfl) (by rfl) ?_)⟩
  try simp (disch:=omega) only [go_sem,seval,ew,Pn]
 have hk:k=n:=by omega
 subst hk
 rw [List.take_of_length_le (by omega)] at h3
 subst h3
 refine qX ?_
 refine qJ [] ?_
 simp [lP,ew]
theorem O4 (b:List UInt8) (c:CurD) (hc:c.ok b):∃ (x:LetterD) (c':CurD),c'.ok b/\x.wf/\aP 48 [.sc (.pt 1 0 0)] (c.hp b) (.ag x.cs) (c'.hp b):=by
 obtain⟨x,c1,o1,w1,h1⟩:=mI b c hc
 have h2:=ai b c1 o1 12
 have o2:=CurD.below_ok o1 12
 have b2:=c1.below_lt b (n:=12) (by omega)
 generalize c1.below b 12=r2 at h2 o2 b2
 obtain⟨v2,c2⟩:=r2
 dsimp only at h2 o2 b2
 have hv:v2=0\/v2=1\/v2=2\/v2=3\/4<=v2:=by omega
 rcases hv with rfl|rfl|rfl|rfl|hv
 ·have h3:=bL b c2 o2 [0,14,13] (by decide) (by decide)
  have o3:=CurD.below_ok o2 (b:=b) 3
  have m3:=c2.pick_mem b (l:=[0,14,13]) (by decide)
  have w3:=(by decide:∀ x∈([0,14,13]:List Int),0<=x/\x<=14) _ m3
  rw [show (([0,14,13]:List Int).length:Int)=3 from rfl] at h3
  generalize c2.pick b [0,14,13]=v3 at h3 w3
  clear m3
  generalize c2.below b 3=r3 at h3 o3
  obtain⟨u3,c3⟩:=r3
  dsimp only at h3 o3
  refine⟨{ x with kind:=v3 },c3,o3,by simp only [LetterD.wf,I64,maxLen,List.length_replicate] at*;omega,?_⟩
  refine qE Tryz.func48 Tryz.ntmps48 Tryz.results48 fun E hE=>?_
  refine qK (h1) (qI 0 2) ?_
  refine qK (h2) (qI 0 2) ?_
  refine qK (h3) (qI 0 2++qI 4 1) ?_
  exact qF (qI 0 2)
 ·have h3:=bL b c2 o2 [20,21] (by decide) (by decide)
  have o3:=CurD.below_ok o2 (b:=b) 2
  have m3:=c2.pick_mem b (l:=[20,21]) (by decide)
  have w3:=(by decide:∀ x∈([20,21]:List Int),20<=x/\x<=21) _ m3
  rw [show (([20,21]:List Int).length:Int)=2 from rfl] at h3
  generalize c2.pick b [20,21]=v3 at h3 w3
  clear m3
  generalize c2.below b 2=r3 at h3 o3
  obtain⟨u3,c3⟩:=r3
  dsimp only at h3 o3
  obtain⟨n,rfl⟩:=Int.eq_ofNat_of_zero_le (show 0<=v3 by omega)
  refine⟨{ x with text:=List.replicate n 97 },c3,o3,by simp only [LetterD.wf,I64,maxLen,List.length_replicate] at*;omega,?_⟩
  refine qE Tryz.func48 Tryz.ntmps48 Tryz.results48 fun E hE=>?_
  refine qK (h1) (qI 0 2) ?_
  refine qK (h2) (qI 0 2) ?_
  refine qK (h3) (qI 0 2++qI 4 1) ?_
  refine qK (O0 n 97 (by omega)) [] ?_
  exact qF (qI 0 2)
 ·have h3:=bL b c2 o2 [-1,1000000001] (by decide) (by decide)
  have o3:=CurD.below_ok o2 (b:=b) 2
  have m3:=c2.pick_mem b (l:=[-1,1000000001]) (by decide)
  have w3:=(by decide:∀ x∈([-1,1000000001]:List Int),-1<=x/\x<=1000000001) _ m3
  rw [show (([-1,1000000001]:List Int).length:Int)=2 from rfl] at h3
  generalize c2.pick b [-1,1000000001]=v3 at h3 w3
  clear m3
  generalize c2.below b 2=r3 at h3 o3
  obtain⟨u3,c3⟩:=r3
  dsimp only at h3 o3
  refine⟨{ x with sgn:=v3 },c3,o3,by simp only [LetterD.wf,I64,maxLen,List.length_replicate] at*;omega,?_⟩
  refine qE Tryz.func48 Tryz.ntmps48 Tryz.results48 fun E hE=>?_
  refine qK (h1) (qI 0 2) ?_
  refine qK (h2) (qI 0 2) ?_
  refine qK (h3) (qI 0 2++qI 4 1) ?_
  exact qF (qI 0 2)
 ·refine⟨{ x with tag:={ x.tag with a:= -1 } },c2,o2,by simp only [LetterD.wf,I64,maxLen,List.length_replicate] at*;omega,?_⟩
  refine qE Tryz.func48 Tryz.ntmps48 Tryz.results48 fun E hE=>?_
  refine qK (h1) (qI 0 2) ?_
  refine qK (h2) (qI 0 2) ?_
  exact qF (qI 0 2)
 refine⟨x,c2,o2,w1,?_⟩
 refine qE Tryz.func48 Tryz.ntmps48 Tryz.results48 fun E hE=>?_
 refine qK (h1) (qI 0 2) ?_
 refine qK (h2) (qI 0 2) ?_
 exact qF (qI 0 2)
theorem ky (e:EndD) (x:LetterD) (hs:Small e):aP 127 [.ag (e.cs 0),.ag x.cs] (e.hp false) (.tu [.ag ((br e x).1.cs 7),.sc (.sl 14 0 (br e x).2.length)])
  (e.hp false++((br e x).1.hp true++[some ⟨(br e x).2.map LetterD.cs,19,48,true,true⟩])):=by
 have hC:=(qH (jF e))
 have hK:=(qH (ap e))
 have hH:=cT e.halfs (roadOf x) (by have:=hs.halfs;omega)
 have hO:=cl e x.to (by have:=hs.own;omega)
 have hT:=nn e.bucket
 have hL:=a1 x
 have hTk:=d6 e.side
 have hbH:=ix e.halfs (roadOf x)
 have hf:=Ex (e:=e) (x:=x)
 have hns:=fun i=> @Ey e x i
 have hnn:= @Ez e x
 have hok:=rF.eq_1 e x
 generalize br e x=R at*
 refine qE Tryz.func127 Tryz.ntmps127 Tryz.results127 fun E hE=>?_
 refine qK (hC) (qI 0 7) ?_
 refine qK (a5 x) [] ?_
 refine qK (hH) (qI 3 1) ?_
 rcases hbH with hi|⟨hi0,hi1⟩
 ·rw [hi]
  refine qX ?_
  refine qD [0,1,2,3,4,5,6,7,8,9,10,11,12,13,14,15,16,17,18,19,20,21,22,23,24,25,26,27,28,29,30,31,32,33,34,35,36,37,38,39,40,41,42,43,44,45,46,47,48,49,50,51,52,53] ?_
  refine aQ (hK) (qI 0 7) ?_
  refine qB (fun h1=>?_) fun h1=>?_
  ·refine aQ (hL) [] ?_
   refine qB (fun h2=>?_) fun h2=>?_
   ·refine qB (fun h3=>?_) fun h3=>?_
    ·refine aQ (hTk) [] ?_
     refine qB (fun h4=>?_) fun h4=>?_
     ·refine aQ (hO) (qI 0 7) ?_
      refine qB (fun h5=>?_) fun h5=>?_
      ·refine qB (fun h6=>?_) fun h6=>?_
       ·refine qB (fun h7=>?_) fun h7=>?_
        ·refine aQ (bp e) (qI 0 7) ?_
         refine qB (fun h8=>?_) fun h8=>?_
         ·refine qG ?_
          refine qB (fun h9=>?_) fun h9=>?_
          ·rw [hf (by rw [hok];first|(simp [h1,h2,h3,h4,h5,h6,h8,h9,hi];done)|(simp [h1,h2,h3,h4,h5,h6,h8,h9,hi];intros;omega))]
           exact qF (qI 0 7++qI 10 7++qO 1)
          refine qX ?_
          refine qK (hT) [] ?_
          refine qB (fun h10=>?_) fun h10=>?_
          ·rw [hf (by rw [hok];first|(simp [h1,h2,h3,h4,h5,h6,h8,h9,h10,hi];done)|(simp [h1,h2,h3,h4,h5,h6,h8,h9,h10,hi];intros;omega))]
           exact qF (qI 0 7++qI 10 7++qO 1)
          have hnow:=kl h1
          have hok':rF e x=true:=by rw [hok];have:=ca (bU h1);have:=b_ h1;simp [h1,h2,h3,h4,h5,h6,h8,h9,h10,hi];try omega
          refine qX ?_
          have hsm:fg e x=false:=wQ hi
          refine qD [0,1,2,3,4,5,6,7,8,9,10,11,12,13,14,15,16,17,18,19,20,21,22,23] ?_
          refine qG ?_
          rw [hnn hok' hsm]
          refine qX ?_
          have hP:=db e.halfs (aK e x) (by have:=ca (bU h1);omega)
          obtain⟨Q,hQ⟩:∃ Q,Q=bJ e.halfs (aK e x):=⟨_,rfl⟩
          rw [<-hQ] at hP⊢
          have hQl:Q.1.length<=1048576:=by rw [hQ];have:=ca (bU h1);have:=dN e.halfs (aK e x);unfold bJ;split<;>dsimp only<;>omega
          refine qK (b9 { e with bucket:=(bI e.bucket).1 } h8) (qI 10 8) ?_
          refine qK (hP) (qI 13 1) ?_
          refine aO [(17,18)] [(qU [0,10,11,4,10,1,15,5]),(qU [0,10,11,4,10,1,15,2,18,1,17,1,19,1])] (by kernel_rfl) (qC) (by kernel_rfl) ?_
          simp only [bm]
          refine⟨aa 400 ?_,aa 400 ?_⟩
          all_goals simp (disch:=omega) only [go_sem,seval]
          all_goals
           refine aQ (b8 _ _ _ _) [] ?_
           refine aQ (a0 (roadOf x) { ah with kind:=5,tag:=⟨1,e.key,e.peer,(aK e x).mine,(aK e x).theirs⟩,nonce:=(aK e x).mine,give:=(aK e x).take }) [] ?_
           refine qG ?_
           refine aB (qI 0 7++qI 10 3++qI 21 1++qI 14 3++qI 22 1) (qC) _ (by simp only [go_sem];rfl) (by rfl) (by rfl) ?_
           simp (disch:=omega) only [go_sem,seval]
           try simp [List.map_set,HalfD.cs,kT,aK,aq,LetterD.cs,ah]
           try omega
         rw [hf (by rw [hok];first|(simp [h1,h2,h3,h4,h5,h6,h8,hi];done)|(simp [h1,h2,h3,h4,h5,h6,h8,hi];intros;omega))]
         refine qG ?_
         exact qF (qI 0 7++qI 10 7++qO 1)
        rw [hf (by rw [hok];first|(simp [h1,h2,h3,h4,h5,h6,h7,hi];done)|(simp [h1,h2,h3,h4,h5,h6,h7,hi];intros;omega))]
        refine qG ?_
        exact qF (qI 0 7++qI 10 7++qO 1)
       rw [hf (by rw [hok];first|(simp [h1,h2,h3,h4,h5,h6,hi];done)|(simp [h1,h2,h3,h4,h5,h6,hi];intros;omega))]
       refine qG ?_
       exact qF (qI 0 7++qI 10 7++qO 1)
      rw [hf (by rw [hok];first|(simp [h1,h2,h3,h4,h5,hi];done)|(simp [h1,h2,h3,h4,h5,hi];intros;omega))]
      refine qG ?_
      exact qF (qI 0 7++qI 10 7++qO 1)
     rw [hf (by rw [hok];first|(simp [h1,h2,h3,h4,hi];done)|(simp [h1,h2,h3,h4,hi];intros;omega))]
     refine qG ?_
     exact qF (qI 0 7++qI 10 7++qO 1)
    rw [hf (by rw [hok];first|(simp [h1,h2,h3,hi];done)|(simp [h1,h2,h3,hi];intros;omega))]
    refine qG ?_
    exact qF (qI 0 7++qI 10 7++qO 1)
   rw [hf (by rw [hok];first|(simp [h1,h2,hi];done)|(simp [h1,h2,hi];intros;omega))]
   refine qG ?_
   exact qF (qI 0 7++qI 10 7++qO 1)
  rw [hf (by rw [hok];first|(simp [h1,hi];done)|(simp [h1,hi];intros;omega))]
  refine qG ?_
  exact qF (qI 0 7++qI 10 7++qO 1)
 obtain⟨i,hi⟩:=Int.eq_ofNat_of_zero_le hi0
 have hil:i < e.halfs.length:=by omega
 rw [hi]
 refine qX ?_
 refine qD [0,1,2,3,4,5,6,7,8,9,10,11,12,13,14,15,16,17,18,19,20,21,22,23,24,25,26,27,28,29,30,31,32,33,34,35,36,37,38,39,40,41,42,43,44,45,46,47,48,49,50,51,52,53] ?_
 refine aQ (hK) (qI 0 7) ?_
 refine qB (fun h1=>?_) fun h1=>?_
 ·refine aQ (hL) [] ?_
  refine qB (fun h2=>?_) fun h2=>?_
  ·refine qB (fun h3=>?_) fun h3=>?_
   ·refine aQ (hTk) [] ?_
    refine qB (fun h4=>?_) fun h4=>?_
    ·refine aQ (hO) (qI 0 7) ?_
     refine qB (fun h5=>?_) fun h5=>?_
     ·refine qB (fun h6=>?_) fun h6=>?_
      ·refine aQ (bp e) (qI 0 7) ?_
       refine qB (fun h8=>?_) fun h8=>?_
       ·refine qG ?_
        refine qB (fun h9=>?_) fun h9=>?_
        ·rw [hf (by rw [hok];first|(simp [h1,h2,h3,h4,h5,h6,h8,h9,hi];done)|(simp [h1,h2,h3,h4,h5,h6,h8,h9,hi];intros;omega))]
         exact qF (qI 0 7++qI 10 7++qO 1)
        refine qX ?_
        refine qK (hT) [] ?_
        refine qB (fun h10=>?_) fun h10=>?_
        ·rw [hf (by rw [hok];first|(simp [h1,h2,h3,h4,h5,h6,h8,h9,h10,hi];done)|(simp [h1,h2,h3,h4,h5,h6,h8,h9,h10,hi];intros;omega))]
         exact qF (qI 0 7++qI 10 7++qO 1)
        have hnow:=kl h1
        have hok':rF e x=true:=by rw [hok];have:=ca (bU h1);have:=b_ h1;simp [h1,h2,h3,h4,h5,h6,h8,h9,h10,hi];try omega
        refine qX ?_
        refine qD [0,1,2,3,4,5,6,7,8,9,10,11,12,13,14,15,16,17,18,19,20,21,22,23] ?_
        refine qB (fun h11=>?_) fun h11=>?_
        ·refine qG ?_
         refine qB (fun h12=>?_) fun h12=>?_
         ·have hsm:fg e x=true:=by rw [ko hi hil];simp [h11,h12]
          rw [hns _ hok' hsm hi hil]
          have hrd:=rD hi hil
          refine qX ?_
          refine aO [(17,18)] [(qU [0,10,11,4,10,1,15,5]),(qU [0,10,11,4,10,1,15,2,18,1,17,1,19,1])] (by kernel_rfl) (qC) (by kernel_rfl) ?_
          simp only [bm]
          refine⟨aa 400 ?_,aa 400 ?_⟩
          all_goals simp (disch:=omega) only [go_sem,seval]
          all_goals
           refine aQ (b8 _ _ _ _) [] ?_
           refine aQ (a0 (roadOf x) { ah with kind:=5,tag:=⟨1,e.key,e.peer,(e.halfs[i]).mine,(e.halfs[i]).theirs⟩,nonce:=(e.halfs[i]).mine,give:=(e.halfs[i]).take }) [] ?_
           refine qG ?_
           refine aB (qI 0 7++qI 10 7++qI 21 1) (qC) _ (by simp only [go_sem];rfl) (by rfl) (by rfl) ?_
           simp (disch:=omega) only [go_sem,seval]
           try simp [List.map_set,HalfD.cs,kT,aK,aq,LetterD.cs,ah]
           try omega
         have hsm:fg e x=false:=by rw [ko hi hil];simp [h11,h12]
         rw [hnn hok' hsm]
         refine qX ?_
         have hP:=db e.halfs (aK e x) (by have:=ca (bU h1);omega)
         obtain⟨Q,hQ⟩:∃ Q,Q=bJ e.halfs (aK e x):=⟨_,rfl⟩
         rw [<-hQ] at hP⊢
         have hQl:Q.1.length<=1048576:=by rw [hQ];have:=ca (bU h1);have:=dN e.halfs (aK e x);unfold bJ;split<;>dsimp only<;>omega
         refine qK (b9 { e with bucket:=(bI e.bucket).1 } h8) (qI 10 8) ?_
         refine qK (hP) (qI 13 1) ?_
         refine aO [(17,18)] [(qU [0,10,11,4,10,1,15,5]),(qU [0,10,11,4,10,1,15,2,18,1,17,1,19,1])] (by kernel_rfl) (qC) (by kernel_rfl) ?_
         simp only [bm]
         refine⟨aa 400 ?_,aa 400 ?_⟩
         all_goals simp (disch:=omega) only [go_sem,seval]
         all_goals
          refine aQ (b8 _ _ _ _) [] ?_
          refine aQ (a0 (roadOf x) { ah with kind:=5,tag:=⟨1,e.key,e.peer,(aK e x).mine,(aK e x).theirs⟩,nonce:=(aK e x).mine,give:=(aK e x).take }) [] ?_
          refine qG ?_
          refine aB (qI 0 7++qI 10 3++qI 21 1++qI 14 3++qI 22 1) (qC) _ (by simp only [go_sem];rfl) (by rfl) (by rfl) ?_
          simp (disch:=omega) only [go_sem,seval]
          try simp [List.map_set,HalfD.cs,kT,aK,aq,LetterD.cs,ah]
          try omega
        have hsm:fg e x=false:=by rw [ko hi hil];simp [h11]
        refine qG ?_
        rw [hnn hok' hsm]
        refine qX ?_
        have hP:=db e.halfs (aK e x) (by have:=ca (bU h1);omega)
        obtain⟨Q,hQ⟩:∃ Q,Q=bJ e.halfs (aK e x):=⟨_,rfl⟩
        rw [<-hQ] at hP⊢
        have hQl:Q.1.length<=1048576:=by rw [hQ];have:=ca (bU h1);have:=dN e.halfs (aK e x);unfold bJ;split<;>dsimp only<;>omega
        refine qK (b9 { e with bucket:=(bI e.bucket).1 } h8) (qI 10 8) ?_
        refine qK (hP) (qI 13 1) ?_
        refine aO [(17,18)] [(qU [0,10,11,4,10,1,15,5]),(qU [0,10,11,4,10,1,15,2,18,1,17,1,19,1])] (by kernel_rfl) (qC) (by kernel_rfl) ?_
        simp only [bm]
        refine⟨aa 400 ?_,aa 400 ?_⟩
        all_goals simp (disch:=omega) only [go_sem,seval]
        all_goals
         refine aQ (b8 _ _ _ _) [] ?_
         refine aQ (a0 (roadOf x) { ah with kind:=5,tag:=⟨1,e.key,e.peer,(aK e x).mine,(aK e x).theirs⟩,nonce:=(aK e x).mine,give:=(aK e x).take }) [] ?_
         refine qG ?_
         refine aB (qI 0 7++qI 10 3++qI 21 1++qI 14 3++qI 22 1) (qC) _ (by simp only [go_sem];rfl) (by rfl) (by rfl) ?_
         simp (disch:=omega) only [go_sem,seval]
         try simp [List.map_set,HalfD.cs,kT,aK,aq,LetterD.cs,ah]
         try omega
       rw [hf (by rw [hok];first|(simp [h1,h2,h3,h4,h5,h6,h8,hi];done)|(simp [h1,h2,h3,h4,h5,h6,h8,hi];intros;omega))]
       refine qG ?_
       exact qF (qI 0 7++qI 10 7++qO 1)
      rw [hf (by rw [hok];first|(simp [h1,h2,h3,h4,h5,h6,hi];done)|(simp [h1,h2,h3,h4,h5,h6,hi];intros;omega))]
      refine qG ?_
      exact qF (qI 0 7++qI 10 7++qO 1)
     rw [hf (by rw [hok];first|(simp [h1,h2,h3,h4,h5,hi];done)|(simp [h1,h2,h3,h4,h5,hi];intros;omega))]
     refine qG ?_
     exact qF (qI 0 7++qI 10 7++qO 1)
    rw [hf (by rw [hok];first|(simp [h1,h2,h3,h4,hi];done)|(simp [h1,h2,h3,h4,hi];intros;omega))]
    refine qG ?_
    exact qF (qI 0 7++qI 10 7++qO 1)
   rw [hf (by rw [hok];first|(simp [h1,h2,h3,hi];done)|(simp [h1,h2,h3,hi];intros;omega))]
   refine qG ?_
   exact qF (qI 0 7++qI 10 7++qO 1)
  rw [hf (by rw [hok];first|(simp [h1,h2,hi];done)|(simp [h1,h2,hi];intros;omega))]
  refine qG ?_
  exact qF (qI 0 7++qI 10 7++qO 1)
 rw [hf (by rw [hok];first|(simp [h1,hi];done)|(simp [h1,hi];intros;omega))]
 refine qG ?_
 exact qF (qI 0 7++qI 10 7++qO 1)
theorem ge (w:WorldD) (hs:SmallW w):aP 64 [.ag (w.cs 0)] (w.hp false) (.ag (w.cs 21)) (w.hp false++w.hp true):=by
 have ha:=hs.a
 have hb:=hs.b
 refine qE Tryz.func64 Tryz.ntmps64 Tryz.results64 fun E hE=>?_
 refine qK (jF w.a (by have:=ha.own;omega) (by have:=ha.far;omega) (by have:=ha.subs;omega) (by have:=ha.halfs;omega) (by have:=ha.list;omega) (by have:=ha.done;omega) (by have:=ha.over;omega)) (qI 0 7) ?_
 refine qK (jF w.b (by have:=hb.own;omega) (by have:=hb.far;omega) (by have:=hb.subs;omega) (by have:=hb.halfs;omega) (by have:=hb.list;omega) (by have:=hb.done;omega) (by have:=hb.over;omega)) (qI 7 7) ?_
 refine qK (ch w.bag hs.bag) (qI 14 1) ?_
 refine qK (ch w.past hs.past) (qI 15 1) ?_
 refine qK (d2 w.known hs.keys hs.tags) (qI 16 2) ?_
 refine qK (iK w.nums hs.nums) (qI 18 1) ?_
 refine qK (iK w.answersA hs.ansA) (qI 19 1) ?_
 refine qK (iK w.answersB hs.ansB) (qI 20 1) ?_
 exact qF (qI 0 21++qI 23 21)
def c7 (x:LetterD):List Int:=[x.nonce,x.give,x.sgn]
theorem gl {l:List Int} {m:List Int} {k:Nat} (h:k < l.length):(l.drop k).foldl cP m=(l.drop (k+1)).foldl cP (cP m l[k]):=by
 rw [List.drop_eq_getElem_cons h];rfl
theorem m4 {l:List Int} {m:List Int} {k:Nat} (h:l.length<=k):(l.drop k).foldl cP m=m:=by
 rw [List.drop_eq_nil_of_le h];rfl
theorem dd (w:WorldD) (l:List LetterD) (hw:SmallP2 w) (hl:l.length<=1048576):aP 68 [.sc (.pt 21 0 0),.sc (.int .i64 1),.sc (.sl 22 0 l.length)]
  (gq w false++(gr w true++[some ⟨[w.cs 0],61,44,true,false⟩,some ⟨l.map LetterD.cs,19,48,false,true⟩])) (.tu [])
  (gq w false++((nH 7++[some ⟨[(eg (an 1 w l) 0 1 2 3 4 5 6 7 8 9 10 11 12 13 23 24 25 26 27 28 29)],61,44,true,false⟩,some ⟨l.map LetterD.cs,19,48,false,true⟩])++gr (an 1 w l) true)):=by
 obtain⟨R,hR⟩:∃ R,R=an 1 w l:=⟨_,rfl⟩
 rw [<-hR]
 have hl2:l.length<=9223372036854775807:=by omega
 refine kc Tryz.func68 (by kernel_rfl) rfl fun E hE=>ac 400 ?_
 simp (disch:=omega) only [Tryz.ntmps68,Tryz.results68,go_sem,seval]
 refine ju 23 hE (fun s (y:Nat×WorldD)=>s.at (qU [2,1,7,1,9,1,13,145]) [(12,.sc (.int .i64 (y.1:Nat)))] (gq w false++((nH 7++[some ⟨[(eg y.2 0 1 2 3 4 5 6 7 8 9 10 11 12 13 23 24 25 26 27 28 29)],61,44,true,false⟩,some ⟨l.map LetterD.cs,19,48,false,true⟩])++(gr y.2 true)))) (fun (y:Nat×WorldD)=>y.1<=l.length/\y.2.a=w.a/\y.2.b=w.b/\SmallP2 y.2/\R=an 1 y.2 (l.drop y.1)) (fun (y:Nat×WorldD)=>l.length - y.1) (0,w) (qI 0 23++qI 14 7) (qC) (⟨Nat.zero_le _,rfl,rfl,hw,hR⟩) (ab (by rfl) (by rfl) ?_) fun y hy N hN=>?_
 ·try simp (disch:=omega) only [go_sem,seval]
 obtain⟨i,u⟩:=y
 obtain⟨hi,ha,hb,hS,hu⟩:=hy
 obtain⟨ua,ub,bag,past,wA,wB,rA,rB,known,nums,nsA,nsB⟩:=u
 obtain⟨keys,tags⟩:=known
 dsimp only at hi ha hb hu
 subst ha hb
 have s1:=hS.bag
 have s2:=hS.past
 have s3:=hS.keys
 have s4:=hS.tags
 have s5:=hS.nums
 have s6:=hS.ansA
 have s7:=hS.ansB
 dsimp only at s1 s2 s3 s4 s5 s6 s7
 refine dL 21 400 ?_
 try simp (disch:=omega) only [go_sem,seval]
 split<;>rename_i h<;>(try simp only [decide_eq_true_eq,decide_eq_false_iff_not,Int.ofNat_lt] at h)
 rotate_left
 ·have e:i=l.length:=by omega
  subst e
  rw [oV (Nat.le_refl _)] at hu
  subst hu
  try simp (disch:=omega) only [go_sem,seval]
  refine fL (qI 0 30) (qC) _ (by simp only [go_sem];rfl) (by rfl) (by rfl) ?_
  simp (disch:=omega) only [go_sem,seval]
 rw [mV h] at hu
 generalize hx:l[i]=x at hu
 have hget:=aT (enc:=LetterD.cs) h
 rw [hx] at hget
 try simp (disch:=omega) only [go_sem,seval,hget]
 obtain⟨p1,hp1⟩:∃ p,p=mS past x:=⟨_,rfl⟩
 refine ec 23 hE (fun s=>s.at (qU [13,19]) [] (gq w false++((nH 7++[some ⟨[(eg (⟨w.a,w.b,bag,p1,wA,wB,rA,rB,⟨keys,tags⟩,nums,nsA,nsB⟩:WorldD) 0 1 2 3 4 5 6 7 8 9 10 11 12 13 23 24 25 26 27 28 29)],61,44,true,false⟩,some ⟨l.map LetterD.cs,19,48,false,true⟩])++(gr (⟨w.a,w.b,bag,p1,wA,wB,rA,rB,⟨keys,tags⟩,nums,nsA,nsB⟩:WorldD) true++[some ⟨[x.cs],19,48,true,false⟩])))) (qC) (by rfl) (fun N hN=>ac 401 ?_) (dL 34 400 ?_)
 ·try simp (disch:=omega) only [go_sem,seval]
  split<;>rename_i b1<;>(try simp only [beq_true,beq_false,Bool.not_eq_true',Bool.not_eq_false'] at b1)<;>simp (disch:=omega) only [go_sem,seval,b1]<;>(try simp only [decide_eq_true_eq,decide_eq_false_iff_not,beq_iff_eq,beq_eq_false_iff_ne,bne_iff_ne,bne_eq_false_iff_eq,ne_eq,Decidable.not_not,Bool.and_eq_true,Bool.and_eq_false_iff,Bool.or_eq_true,Bool.or_eq_false_iff,Int.ofNat_lt,Int.ofNat_le,Bool.not_eq_eq_eq_not,Bool.not_true,Bool.not_false] at b1)<;>try simp (disch:=omega) only [go_sem,seval]
  ·rw [vF (by omega)] at hp1
   subst hp1
   refine iu (qU [0,11]) (by kernel_rfl) (qC) (by kernel_rfl) (aa 400 ?_)
   simp (disch:=omega) only [go_sem,seval]
   refine⟨qC,dL 34 400 ?_⟩
   try simp (disch:=omega) only [go_sem,seval]
   refine⟨qC,hN _ (qI 0 24++qI 32 1++qI 25 6) (ab (by rfl) (by rfl) ?_)⟩
   simp (disch:=omega) only [go_sem,seval]
   try simp [LetterD.cs]
  rw [vG (by omega)] at hp1
  subst hp1
  try simp (disch:=omega) only [go_sem,seval]
  refine⟨qC,hN _ (qI 0 31) (ab (by rfl) (by rfl) ?_)⟩
  simp (disch:=omega) only [go_sem,seval]
 try simp (disch:=omega) only [go_sem,seval]
 obtain⟨q1,hq1⟩:∃ q,q=h_ nsA (ia 1 1 x) w.a.now:=⟨_,rfl⟩
 refine ec 23 hE (fun s=>s.at (qU [13,70]) [] (gq w false++((nH 7++[some ⟨[(eg (⟨w.a,w.b,bag,p1,wA,wB,rA,rB,⟨keys,tags⟩,nums,q1,nsB⟩:WorldD) 0 1 2 3 4 5 6 7 8 9 10 11 12 13 23 24 25 26 27 28 29)],61,44,true,false⟩,some ⟨l.map LetterD.cs,19,48,false,true⟩])++(gr (⟨w.a,w.b,bag,p1,wA,wB,rA,rB,⟨keys,tags⟩,nums,q1,nsB⟩:WorldD) true++[some ⟨[x.cs],19,48,true,false⟩])))) (qC) (by rfl) (fun N hN=>ac 401 ?_) (ac 400 ?_)
 ·try simp (disch:=omega) only [go_sem,seval]
  split<;>rename_i b2<;>(try simp only [beq_true,beq_false,Bool.not_eq_true',Bool.not_eq_false'] at b2)<;>simp (disch:=omega) only [go_sem,seval,b2]<;>(try simp only [decide_eq_true_eq,decide_eq_false_iff_not,beq_iff_eq,beq_eq_false_iff_ne,bne_iff_ne,bne_eq_false_iff_eq,ne_eq,Decidable.not_not,Bool.and_eq_true,Bool.and_eq_false_iff,Bool.or_eq_true,Bool.or_eq_false_iff,Int.ofNat_lt,Int.ofNat_le,Bool.not_eq_eq_eq_not,Bool.not_true,Bool.not_false] at b2)<;>try simp (disch:=omega) only [go_sem,seval]
  ·rw [zg b2] at hq1
   split<;>rename_i b3<;>(try simp only [beq_true,beq_false,Bool.not_eq_true',Bool.not_eq_false'] at b3)<;>simp (disch:=omega) only [go_sem,seval,b3]<;>(try simp only [decide_eq_true_eq,decide_eq_false_iff_not,beq_iff_eq,beq_eq_false_iff_ne,bne_iff_ne,bne_eq_false_iff_eq,ne_eq,Decidable.not_not,Bool.and_eq_true,Bool.and_eq_false_iff,Bool.or_eq_true,Bool.or_eq_false_iff,Int.ofNat_lt,Int.ofNat_le,Bool.not_eq_eq_eq_not,Bool.not_true,Bool.not_false] at b3)<;>try simp (disch:=omega) only [go_sem,seval]
   ·rw [ze (by omega)] at hq1
    subst hq1
    refine iu (qU [0,15]) (by kernel_rfl) (qC) (by kernel_rfl) (aa 400 ?_)
    simp (disch:=omega) only [go_sem,seval]
    refine⟨qC,ac 400 ?_⟩
    try simp (disch:=omega) only [go_sem,seval]
    refine⟨qC,hN _ (qI 0 28++qI 32 1++qI 29 2) (ab (by rfl) (by rfl) ?_)⟩
    simp (disch:=omega) only [go_sem,seval]
    try simp [aM]
   rw [zf (by omega)] at hq1
   subst hq1
   try simp (disch:=omega) only [go_sem,seval]
   refine⟨qC,hN _ (qI 0 31) (ab (by rfl) (by rfl) ?_)⟩
   simp (disch:=omega) only [go_sem,seval]
  rw [uu b2,gk] at hq1
  subst hq1
  try simp (disch:=omega) only [go_sem,seval]
  refine⟨qC,hN _ (qI 0 31) (ab (by rfl) (by rfl) ?_)⟩
  simp (disch:=omega) only [go_sem,seval]
 try simp (disch:=omega) only [go_sem,seval]
 refine bc (qC) (d1 x.to) [] qM (by rfl) (ac 400 ?_)
 simp (disch:=omega) only [go_sem,seval]
 have hoth:h_ nsB (ia 1 2 x) w.b.now=nsB:=by rw [qd (by decide),gk]
 split<;>rename_i b4<;>(try simp only [beq_true,beq_false,Bool.not_eq_true',Bool.not_eq_false'] at b4)<;>simp (disch:=omega) only [go_sem,seval,b4]<;>(try simp only [decide_eq_true_eq,decide_eq_false_iff_not,beq_iff_eq,beq_eq_false_iff_ne,bne_iff_ne,bne_eq_false_iff_eq,ne_eq,Decidable.not_not,Bool.and_eq_true,Bool.and_eq_false_iff,Bool.or_eq_true,Bool.or_eq_false_iff,Int.ofNat_lt,Int.ofNat_le,Bool.not_eq_eq_eq_not,Bool.not_true,Bool.not_false] at b4)<;>try simp (disch:=omega) only [go_sem,seval]
 ·have hK:=fz ⟨keys,tags⟩ x.tag (by dsimp only;omega) (by dsimp only;omega)
  have hky:(ez ⟨keys,tags⟩ x.tag).keys.length<=1048576:=by rw [i4];exact s3
  have hkt:(ez ⟨keys,tags⟩ x.tag).tags.length<=1048576:=mT s4
  obtain⟨kk,hkk⟩:∃ k,k=ez ⟨keys,tags⟩ x.tag:=⟨_,rfl⟩
  rw [<-hkk] at hK hky hkt
  obtain⟨k1,t1⟩:=kk
  dsimp only at hky hkt
  refine iu (qU [0,11]) (by kernel_rfl) (qC) (by kernel_rfl) (aa 400 ?_)
  simp (disch:=omega) only [go_sem,seval]
  refine it (qC) (hK) (qI 25 2) qM (by rfl) (by rfl) (aa 400 ?_)
  simp (disch:=omega) only [go_sem,seval]
  refine⟨qC,ac 400 ?_⟩
  try simp (disch:=omega) only [go_sem,seval]
  obtain⟨n1,hn1⟩:∃ n,n=(c7 x).foldl cP nums:=⟨_,rfl⟩
  have hn1l:n1.length<=1048576:=by rw [hn1];exact gj (gj (gj s5))
  refine ju 23 hE (fun s (z:Nat×List Int)=>s.at (qU [2,1,9,1,14,7,22,12,35,9,45,23,69,14,84,20,107,33,141,17]) [(106,.sc (.int .i64 (z.1:Nat))),(104,.sc (.sl 31 0 3))] (gq w false++((nH 7++[some ⟨[(eg (⟨w.a,w.b,bag,p1,wA,wB,rA,rB,⟨k1,t1⟩,z.2,q1,nsB⟩:WorldD) 0 1 2 3 4 5 6 7 8 9 10 11 12 13 23 24 25 26 27 28 29)],61,44,true,false⟩,some ⟨l.map LetterD.cs,19,48,false,true⟩])++(gr (⟨w.a,w.b,bag,p1,wA,wB,rA,rB,⟨k1,t1⟩,z.2,q1,nsB⟩:WorldD) true++[some ⟨[x.cs],19,48,true,false⟩]++[some ⟨[[.int .i64 x.nonce],[.int .i64 x.give],[.int .i64 x.sgn]],1,3,true,true⟩])))) (fun (z:Nat×List Int)=>z.1<=3/\z.2.length<=1048576/\n1=((c7 x).drop z.1).foldl cP z.2) (fun (z:Nat×List Int)=>3 - z.1) (0,nums) (qI 0 25++qI 31 2++qI 27 4++qI 33 1) (qC) (⟨Nat.zero_le _,s5,hn1⟩) (ab (by rfl) (by rfl) ?_) fun z hz N2 hN2=>?_
  ·try simp (disch:=omega) only [go_sem,seval]
  obtain⟨j,m⟩:=z
  obtain⟨hj,hm,hn⟩:=hz
  dsimp only at hj hm hn
  refine ac 400 ?_
  try simp (disch:=omega) only [go_sem,seval]
  split<;>rename_i h5<;>(try simp only [decide_eq_true_eq,decide_eq_false_iff_not,Int.ofNat_lt] at h5)
  rotate_left
  ·have e:j=3:=by omega
   subst e
   rw [m4 (by simp [c7])] at hn
   subst hn
   try simp (disch:=omega) only [go_sem,seval]
   refine⟨qC,hN _ (i+1,(⟨w.a,w.b,bag,p1,wA,wB,rA,rB,⟨k1,t1⟩,n1,q1,nsB⟩:WorldD)) (qI 0 30) (⟨by omega,rfl,rfl,?_,?_⟩) (by (try dsimp only);omega) (ab (by rfl) (by rfl) ?_)⟩
   ·have e:cn 1 (⟨w.a,w.b,bag,past,wA,wB,rA,rB,⟨keys,tags⟩,nums,nsA,nsB⟩:WorldD) x=(⟨w.a,w.b,bag,p1,wA,wB,rA,rB,⟨k1,t1⟩,n1,q1,nsB⟩:WorldD):=by
     rw [cn,if_pos b4,vH,mU]
     dsimp only
     rw [<-hkk,hoth,<-hp1,<-hq1,hn1]
     rfl
    rw [<-e]
    exact eG hS
   ·have e:cn 1 (⟨w.a,w.b,bag,past,wA,wB,rA,rB,⟨keys,tags⟩,nums,nsA,nsB⟩:WorldD) x=(⟨w.a,w.b,bag,p1,wA,wB,rA,rB,⟨k1,t1⟩,n1,q1,nsB⟩:WorldD):=by
     rw [cn,if_pos b4,vH,mU]
     dsimp only
     rw [<-hkk,hoth,<-hp1,<-hq1,hn1]
     rfl
    rw [<-e]
    exact hu
   try simp (disch:=omega) only [go_sem,seval]
  have h6:j < (c7 x).length:=by simp only [c7,List.length_cons,List.length_nil];omega
  rw [gl h6] at hn
  generalize hv:(c7 x)[j]=v at hn
  have hg3:([[.int .i64 x.nonce],[.int .i64 x.give],[.int .i64 x.sgn]]:List (List Sc))[j]? =some (aM v):=by
   rw [<-hv]
   rw [show ([[.int .i64 x.nonce],[.int .i64 x.give],[.int .i64 x.sgn]]:List (List Sc))=(c7 x).map aM from rfl]
   exact aT h6
  simp only [aM] at hg3
  have hH:=ct m v hm
  have ht:=BW (l:=m) (n:=v)
  have hf1:=AH (l:=m) (n:=v)
  have hf2:=AI (l:=m) (n:=v)
  have hf3:=AJ (l:=m) (n:=v)
  have hvl:(cP m v).length<=1048576:=gj hm
  generalize cP m v=m1 at*
  try simp (disch:=omega) only [go_sem,seval,hg3]
  split<;>rename_i c1<;>(try simp only [beq_true,beq_false,Bool.not_eq_true',Bool.not_eq_false'] at c1)<;>simp (disch:=omega) only [go_sem,seval,c1]<;>(try simp only [decide_eq_true_eq,decide_eq_false_iff_not,beq_iff_eq,beq_eq_false_iff_ne,bne_iff_ne,bne_eq_false_iff_eq,ne_eq,Decidable.not_not,Bool.and_eq_true,Bool.and_eq_false_iff,Bool.or_eq_true,Bool.or_eq_false_iff,Int.ofNat_lt,Int.ofNat_le,Bool.not_eq_eq_eq_not,Bool.not_true,Bool.not_false] at c1)<;>try simp (disch:=omega) only [go_sem,seval]
  ·refine bc (qC) (hH) (qI 27 1) qM (by rfl) (ac 400 ?_)
   simp (disch:=omega) only [go_sem,seval]
   split<;>rename_i c2<;>(try simp only [beq_true,beq_false,Bool.not_eq_true',Bool.not_eq_false'] at c2)<;>simp (disch:=omega) only [go_sem,seval,c2]<;>(try simp only [decide_eq_true_eq,decide_eq_false_iff_not,beq_iff_eq,beq_eq_false_iff_ne,bne_iff_ne,bne_eq_false_iff_eq,ne_eq,Decidable.not_not,Bool.and_eq_true,Bool.and_eq_false_iff,Bool.or_eq_true,Bool.or_eq_false_iff,Int.ofNat_lt,Int.ofNat_le,Bool.not_eq_eq_eq_not,Bool.not_true,Bool.not_false] at c2)<;>try simp (disch:=omega) only [go_sem,seval]
   ·split<;>rename_i c3<;>(try simp only [beq_true,beq_false,Bool.not_eq_true',Bool.not_eq_false'] at c3)<;>simp (disch:=omega) only [go_sem,seval,c3]<;>(try simp only [decide_eq_true_eq,decide_eq_false_iff_not,beq_iff_eq,beq_eq_false_iff_ne,bne_iff_ne,bne_eq_false_iff_eq,ne_eq,Decidable.not_not,Bool.and_eq_true,Bool.and_eq_false_iff,Bool.or_eq_true,Bool.or_eq_false_iff,Int.ofNat_lt,Int.ofNat_le,Bool.not_eq_eq_eq_not,Bool.not_true,Bool.not_false] at c3)<;>try simp (disch:=omega) only [go_sem,seval]
    ·have e:=ht c1 c2 (by omega)
     subst e
     try simp (disch:=omega) only [go_sem,seval]
     refine⟨qC,hN2 _ (j+1,m++[v]) (qI 0 27++qI 33 1++qI 28 4) (by (try dsimp only);exact⟨by omega,hvl,hn⟩) (by (try dsimp only);omega) (ab (by rfl) (by rfl) ?_)⟩
     try simp (disch:=omega) only [go_sem,seval]
     try simp [aM]
    have e:=hf3 (by omega)
    subst e
    try simp (disch:=omega) only [go_sem,seval]
    refine⟨qC,hN2 _ (j+1,m1) (qI 0 32) (by (try dsimp only);exact⟨by omega,hm,hn⟩) (by (try dsimp only);omega) (ab (by rfl) (by rfl) ?_)⟩
    try simp (disch:=omega) only [go_sem,seval]
   have e:=hf2 c2
   subst e
   try simp (disch:=omega) only [go_sem,seval]
   refine⟨qC,hN2 _ (j+1,m1) (qI 0 32) (by (try dsimp only);exact⟨by omega,hm,hn⟩) (by (try dsimp only);omega) (ab (by rfl) (by rfl) ?_)⟩
   try simp (disch:=omega) only [go_sem,seval]
  have e:=hf1 c1
  subst e
  try simp (disch:=omega) only [go_sem,seval]
  refine⟨qC,hN2 _ (j+1,m1) (qI 0 32) (by (try dsimp only);exact⟨by omega,hm,hn⟩) (by (try dsimp only);omega) (ab (by rfl) (by rfl) ?_)⟩
  try simp (disch:=omega) only [go_sem,seval]
 obtain⟨g1,hg1⟩:∃ g,g=ut bag x:=⟨_,rfl⟩
 have e:cn 1 (⟨w.a,w.b,bag,past,wA,wB,rA,rB,⟨keys,tags⟩,nums,nsA,nsB⟩:WorldD) x=(⟨w.a,w.b,g1,p1,wA,wB,rA,rB,⟨keys,tags⟩,nums,q1,nsB⟩:WorldD):=by
  rw [cn,if_neg b4,mU]
  dsimp only
  rw [hoth,<-hp1,<-hq1,<-hg1]
 rw [e] at hu
 have hS1:=eG (side:=1) (x:=x) hS
 rw [e] at hS1
 split<;>rename_i b5<;>(try simp only [beq_true,beq_false,Bool.not_eq_true',Bool.not_eq_false'] at b5)<;>simp (disch:=omega) only [go_sem,seval,b5]<;>(try simp only [decide_eq_true_eq,decide_eq_false_iff_not,beq_iff_eq,beq_eq_false_iff_ne,bne_iff_ne,bne_eq_false_iff_eq,ne_eq,Decidable.not_not,Bool.and_eq_true,Bool.and_eq_false_iff,Bool.or_eq_true,Bool.or_eq_false_iff,Int.ofNat_lt,Int.ofNat_le,Bool.not_eq_eq_eq_not,Bool.not_true,Bool.not_false] at b5)<;>try simp (disch:=omega) only [go_sem,seval]
 ·rw [zc (by omega)] at hg1
  subst hg1
  refine iu (qU [0,11]) (by kernel_rfl) (qC) (by kernel_rfl) (aa 400 ?_)
  simp (disch:=omega) only [go_sem,seval]
  refine⟨qC,ac 400 ?_⟩
  try simp (disch:=omega) only [go_sem,seval]
  refine⟨qC,hN _ (i+1,(⟨w.a,w.b,(bag++[x]),p1,wA,wB,rA,rB,⟨keys,tags⟩,nums,q1,nsB⟩:WorldD)) (qI 0 23++qI 32 1++qI 24 6) (by (try dsimp only);exact⟨by omega,rfl,rfl,hS1,hu⟩) (by (try dsimp only);omega) (ab (by rfl) (by rfl) ?_)⟩
  try simp (disch:=omega) only [go_sem,seval]
  try simp [LetterD.cs]
 rw [zd (by omega)] at hg1
 subst hg1
 try simp (disch:=omega) only [go_sem,seval]
 refine⟨qC,hN _ (i+1,(⟨w.a,w.b,g1,p1,wA,wB,rA,rB,⟨keys,tags⟩,nums,q1,nsB⟩:WorldD)) (qI 0 30) (by (try dsimp only);exact⟨by omega,rfl,rfl,hS1,hu⟩) (by (try dsimp only);omega) (ab (by rfl) (by rfl) ?_)⟩
 try simp (disch:=omega) only [go_sem,seval]
theorem ea (w:WorldD) (l:List LetterD) (hw:SmallP2 w) (hl:l.length<=1048576):aP 68 [.sc (.pt 21 0 0),.sc (.int .i64 2),.sc (.sl 22 0 l.length)]
  (gq w false++(gr w true++[some ⟨[w.cs 0],61,44,true,false⟩,some ⟨l.map LetterD.cs,19,48,false,true⟩])) (.tu [])
  (gq w false++((nH 7++[some ⟨[(eg (an 2 w l) 0 1 2 3 4 5 6 7 8 9 10 11 12 13 23 24 25 26 27 28 29)],61,44,true,false⟩,some ⟨l.map LetterD.cs,19,48,false,true⟩])++gr (an 2 w l) true)):=by
 obtain⟨R,hR⟩:∃ R,R=an 2 w l:=⟨_,rfl⟩
 rw [<-hR]
 have hl2:l.length<=9223372036854775807:=by omega
 refine kc Tryz.func68 (by kernel_rfl) rfl fun E hE=>ac 400 ?_
 simp (disch:=omega) only [Tryz.ntmps68,Tryz.results68,go_sem,seval]
 refine ju 23 hE (fun s (y:Nat×WorldD)=>s.at (qU [2,1,7,1,9,1,13,145]) [(12,.sc (.int .i64 (y.1:Nat)))] (gq w false++((nH 7++[some ⟨[(eg y.2 0 1 2 3 4 5 6 7 8 9 10 11 12 13 23 24 25 26 27 28 29)],61,44,true,false⟩,some ⟨l.map LetterD.cs,19,48,false,true⟩])++(gr y.2 true)))) (fun (y:Nat×WorldD)=>y.1<=l.length/\y.2.a=w.a/\y.2.b=w.b/\SmallP2 y.2/\R=an 2 y.2 (l.drop y.1)) (fun (y:Nat×WorldD)=>l.length - y.1) (0,w) (qI 0 23++qI 14 7) (qC) (⟨Nat.zero_le _,rfl,rfl,hw,hR⟩) (ab (by rfl) (by rfl) ?_) fun y hy N hN=>?_
 ·try simp (disch:=omega) only [go_sem,seval]
 obtain⟨i,u⟩:=y
 obtain⟨hi,ha,hb,hS,hu⟩:=hy
 obtain⟨ua,ub,bag,past,wA,wB,rA,rB,known,nums,nsA,nsB⟩:=u
 obtain⟨keys,tags⟩:=known
 dsimp only at hi ha hb hu
 subst ha hb
 have s1:=hS.bag
 have s2:=hS.past
 have s3:=hS.keys
 have s4:=hS.tags
 have s5:=hS.nums
 have s6:=hS.ansA
 have s7:=hS.ansB
 dsimp only at s1 s2 s3 s4 s5 s6 s7
 refine dL 21 400 ?_
 try simp (disch:=omega) only [go_sem,seval]
 split<;>rename_i h<;>(try simp only [decide_eq_true_eq,decide_eq_false_iff_not,Int.ofNat_lt] at h)
 rotate_left
 ·have e:i=l.length:=by omega
  subst e
  rw [oV (Nat.le_refl _)] at hu
  subst hu
  try simp (disch:=omega) only [go_sem,seval]
  refine fL (qI 0 30) (qC) _ (by simp only [go_sem];rfl) (by rfl) (by rfl) ?_
  simp (disch:=omega) only [go_sem,seval]
 rw [mV h] at hu
 generalize hx:l[i]=x at hu
 have hget:=aT (enc:=LetterD.cs) h
 rw [hx] at hget
 try simp (disch:=omega) only [go_sem,seval,hget]
 obtain⟨p1,hp1⟩:∃ p,p=mS past x:=⟨_,rfl⟩
 refine ec 23 hE (fun s=>s.at (qU [13,19]) [] (gq w false++((nH 7++[some ⟨[(eg (⟨w.a,w.b,bag,p1,wA,wB,rA,rB,⟨keys,tags⟩,nums,nsA,nsB⟩:WorldD) 0 1 2 3 4 5 6 7 8 9 10 11 12 13 23 24 25 26 27 28 29)],61,44,true,false⟩,some ⟨l.map LetterD.cs,19,48,false,true⟩])++(gr (⟨w.a,w.b,bag,p1,wA,wB,rA,rB,⟨keys,tags⟩,nums,nsA,nsB⟩:WorldD) true++[some ⟨[x.cs],19,48,true,false⟩])))) (qC) (by rfl) (fun N hN=>ac 401 ?_) (dL 34 400 ?_)
 ·try simp (disch:=omega) only [go_sem,seval]
  split<;>rename_i b1<;>(try simp only [beq_true,beq_false,Bool.not_eq_true',Bool.not_eq_false'] at b1)<;>simp (disch:=omega) only [go_sem,seval,b1]<;>(try simp only [decide_eq_true_eq,decide_eq_false_iff_not,beq_iff_eq,beq_eq_false_iff_ne,bne_iff_ne,bne_eq_false_iff_eq,ne_eq,Decidable.not_not,Bool.and_eq_true,Bool.and_eq_false_iff,Bool.or_eq_true,Bool.or_eq_false_iff,Int.ofNat_lt,Int.ofNat_le,Bool.not_eq_eq_eq_not,Bool.not_true,Bool.not_false] at b1)<;>try simp (disch:=omega) only [go_sem,seval]
  ·rw [vF (by omega)] at hp1
   subst hp1
   refine iu (qU [0,11]) (by kernel_rfl) (qC) (by kernel_rfl) (aa 400 ?_)
   simp (disch:=omega) only [go_sem,seval]
   refine⟨qC,dL 34 400 ?_⟩
   try simp (disch:=omega) only [go_sem,seval]
   refine⟨qC,hN _ (qI 0 24++qI 32 1++qI 25 6) (ab (by rfl) (by rfl) ?_)⟩
   simp (disch:=omega) only [go_sem,seval]
   try simp [LetterD.cs]
  rw [vG (by omega)] at hp1
  subst hp1
  try simp (disch:=omega) only [go_sem,seval]
  refine⟨qC,hN _ (qI 0 31) (ab (by rfl) (by rfl) ?_)⟩
  simp (disch:=omega) only [go_sem,seval]
 try simp (disch:=omega) only [go_sem,seval]
 obtain⟨q1,hq1⟩:∃ q,q=h_ nsB (ia 2 2 x) w.b.now:=⟨_,rfl⟩
 refine ec 23 hE (fun s=>s.at (qU [13,70]) [] (gq w false++((nH 7++[some ⟨[(eg (⟨w.a,w.b,bag,p1,wA,wB,rA,rB,⟨keys,tags⟩,nums,nsA,q1⟩:WorldD) 0 1 2 3 4 5 6 7 8 9 10 11 12 13 23 24 25 26 27 28 29)],61,44,true,false⟩,some ⟨l.map LetterD.cs,19,48,false,true⟩])++(gr (⟨w.a,w.b,bag,p1,wA,wB,rA,rB,⟨keys,tags⟩,nums,nsA,q1⟩:WorldD) true++[some ⟨[x.cs],19,48,true,false⟩])))) (qC) (by rfl) (fun N hN=>ac 401 ?_) (ac 400 ?_)
 ·try simp (disch:=omega) only [go_sem,seval]
  split<;>rename_i b2<;>(try simp only [beq_true,beq_false,Bool.not_eq_true',Bool.not_eq_false'] at b2)<;>simp (disch:=omega) only [go_sem,seval,b2]<;>(try simp only [decide_eq_true_eq,decide_eq_false_iff_not,beq_iff_eq,beq_eq_false_iff_ne,bne_iff_ne,bne_eq_false_iff_eq,ne_eq,Decidable.not_not,Bool.and_eq_true,Bool.and_eq_false_iff,Bool.or_eq_true,Bool.or_eq_false_iff,Int.ofNat_lt,Int.ofNat_le,Bool.not_eq_eq_eq_not,Bool.not_true,Bool.not_false] at b2)<;>try simp (disch:=omega) only [go_sem,seval]
  ·rw [zg b2] at hq1
   split<;>rename_i b3<;>(try simp only [beq_true,beq_false,Bool.not_eq_true',Bool.not_eq_false'] at b3)<;>simp (disch:=omega) only [go_sem,seval,b3]<;>(try simp only [decide_eq_true_eq,decide_eq_false_iff_not,beq_iff_eq,beq_eq_false_iff_ne,bne_iff_ne,bne_eq_false_iff_eq,ne_eq,Decidable.not_not,Bool.and_eq_true,Bool.and_eq_false_iff,Bool.or_eq_true,Bool.or_eq_false_iff,Int.ofNat_lt,Int.ofNat_le,Bool.not_eq_eq_eq_not,Bool.not_true,Bool.not_false] at b3)<;>try simp (disch:=omega) only [go_sem,seval]
   ·rw [ze (by omega)] at hq1
    subst hq1
    refine iu (qU [0,15]) (by kernel_rfl) (qC) (by kernel_rfl) (aa 400 ?_)
    simp (disch:=omega) only [go_sem,seval]
    refine⟨qC,ac 400 ?_⟩
    try simp (disch:=omega) only [go_sem,seval]
    refine⟨qC,hN _ (qI 0 29++qI 32 1++qI 30 1) (ab (by rfl) (by rfl) ?_)⟩
    simp (disch:=omega) only [go_sem,seval]
    try simp [aM]
   rw [zf (by omega)] at hq1
   subst hq1
   try simp (disch:=omega) only [go_sem,seval]
   refine⟨qC,hN _ (qI 0 31) (ab (by rfl) (by rfl) ?_)⟩
   simp (disch:=omega) only [go_sem,seval]
  rw [uu b2,gk] at hq1
  subst hq1
  try simp (disch:=omega) only [go_sem,seval]
  refine⟨qC,hN _ (qI 0 31) (ab (by rfl) (by rfl) ?_)⟩
  simp (disch:=omega) only [go_sem,seval]
 try simp (disch:=omega) only [go_sem,seval]
 refine bc (qC) (d1 x.to) [] qM (by rfl) (ac 400 ?_)
 simp (disch:=omega) only [go_sem,seval]
 have hoth:h_ nsA (ia 2 1 x) w.a.now=nsA:=by rw [qd (by decide),gk]
 split<;>rename_i b4<;>(try simp only [beq_true,beq_false,Bool.not_eq_true',Bool.not_eq_false'] at b4)<;>simp (disch:=omega) only [go_sem,seval,b4]<;>(try simp only [decide_eq_true_eq,decide_eq_false_iff_not,beq_iff_eq,beq_eq_false_iff_ne,bne_iff_ne,bne_eq_false_iff_eq,ne_eq,Decidable.not_not,Bool.and_eq_true,Bool.and_eq_false_iff,Bool.or_eq_true,Bool.or_eq_false_iff,Int.ofNat_lt,Int.ofNat_le,Bool.not_eq_eq_eq_not,Bool.not_true,Bool.not_false] at b4)<;>try simp (disch:=omega) only [go_sem,seval]
 ·have hK:=fz ⟨keys,tags⟩ x.tag (by dsimp only;omega) (by dsimp only;omega)
  have hky:(ez ⟨keys,tags⟩ x.tag).keys.length<=1048576:=by rw [i4];exact s3
  have hkt:(ez ⟨keys,tags⟩ x.tag).tags.length<=1048576:=mT s4
  obtain⟨kk,hkk⟩:∃ k,k=ez ⟨keys,tags⟩ x.tag:=⟨_,rfl⟩
  rw [<-hkk] at hK hky hkt
  obtain⟨k1,t1⟩:=kk
  dsimp only at hky hkt
  refine iu (qU [0,11]) (by kernel_rfl) (qC) (by kernel_rfl) (aa 400 ?_)
  simp (disch:=omega) only [go_sem,seval]
  refine it (qC) (hK) (qI 25 2) qM (by rfl) (by rfl) (aa 400 ?_)
  simp (disch:=omega) only [go_sem,seval]
  refine⟨qC,ac 400 ?_⟩
  try simp (disch:=omega) only [go_sem,seval]
  obtain⟨n1,hn1⟩:∃ n,n=(c7 x).foldl cP nums:=⟨_,rfl⟩
  have hn1l:n1.length<=1048576:=by rw [hn1];exact gj (gj (gj s5))
  refine ju 23 hE (fun s (z:Nat×List Int)=>s.at (qU [2,1,9,1,14,7,22,12,35,9,45,23,69,14,84,20,107,33,141,17]) [(106,.sc (.int .i64 (z.1:Nat))),(104,.sc (.sl 31 0 3))] (gq w false++((nH 7++[some ⟨[(eg (⟨w.a,w.b,bag,p1,wA,wB,rA,rB,⟨k1,t1⟩,z.2,nsA,q1⟩:WorldD) 0 1 2 3 4 5 6 7 8 9 10 11 12 13 23 24 25 26 27 28 29)],61,44,true,false⟩,some ⟨l.map LetterD.cs,19,48,false,true⟩])++(gr (⟨w.a,w.b,bag,p1,wA,wB,rA,rB,⟨k1,t1⟩,z.2,nsA,q1⟩:WorldD) true++[some ⟨[x.cs],19,48,true,false⟩]++[some ⟨[[.int .i64 x.nonce],[.int .i64 x.give],[.int .i64 x.sgn]],1,3,true,true⟩])))) (fun (z:Nat×List Int)=>z.1<=3/\z.2.length<=1048576/\n1=((c7 x).drop z.1).foldl cP z.2) (fun (z:Nat×List Int)=>3 - z.1) (0,nums) (qI 0 25++qI 31 2++qI 27 4++qI 33 1) (qC) (⟨Nat.zero_le _,s5,hn1⟩) (ab (by rfl) (by rfl) ?_) fun z hz N2 hN2=>?_
  ·try simp (disch:=omega) only [go_sem,seval]
  obtain⟨j,m⟩:=z
  obtain⟨hj,hm,hn⟩:=hz
  dsimp only at hj hm hn
  refine ac 400 ?_
  try simp (disch:=omega) only [go_sem,seval]
  split<;>rename_i h5<;>(try simp only [decide_eq_true_eq,decide_eq_false_iff_not,Int.ofNat_lt] at h5)
  rotate_left
  ·have e:j=3:=by omega
   subst e
   rw [m4 (by simp [c7])] at hn
   subst hn
   try simp (disch:=omega) only [go_sem,seval]
   refine⟨qC,hN _ (i+1,(⟨w.a,w.b,bag,p1,wA,wB,rA,rB,⟨k1,t1⟩,n1,nsA,q1⟩:WorldD)) (qI 0 30) (⟨by omega,rfl,rfl,?_,?_⟩) (by (try dsimp only);omega) (ab (by rfl) (by rfl) ?_)⟩
   ·have e:cn 2 (⟨w.a,w.b,bag,past,wA,wB,rA,rB,⟨keys,tags⟩,nums,nsA,nsB⟩:WorldD) x=(⟨w.a,w.b,bag,p1,wA,wB,rA,rB,⟨k1,t1⟩,n1,nsA,q1⟩:WorldD):=by
     rw [cn,if_pos b4,vH,mU]
     dsimp only
     rw [<-hkk,hoth,<-hp1,<-hq1,hn1]
     rfl
    rw [<-e]
    exact eG hS
   ·have e:cn 2 (⟨w.a,w.b,bag,past,wA,wB,rA,rB,⟨keys,tags⟩,nums,nsA,nsB⟩:WorldD) x=(⟨w.a,w.b,bag,p1,wA,wB,rA,rB,⟨k1,t1⟩,n1,nsA,q1⟩:WorldD):=by
     rw [cn,if_pos b4,vH,mU]
     dsimp only
     rw [<-hkk,hoth,<-hp1,<-hq1,hn1]
     rfl
    rw [<-e]
    exact hu
   try simp (disch:=omega) only [go_sem,seval]
  have h6:j < (c7 x).length:=by simp only [c7,List.length_cons,List.length_nil];omega
  rw [gl h6] at hn
  generalize hv:(c7 x)[j]=v at hn
  have hg3:([[.int .i64 x.nonce],[.int .i64 x.give],[.int .i64 x.sgn]]:List (List Sc))[j]? =some (aM v):=by
   rw [<-hv]
   rw [show ([[.int .i64 x.nonce],[.int .i64 x.give],[.int .i64 x.sgn]]:List (List Sc))=(c7 x).map aM from rfl]
   exact aT h6
  simp only [aM] at hg3
  have hH:=ct m v hm
  have ht:=BW (l:=m) (n:=v)
  have hf1:=AH (l:=m) (n:=v)
  have hf2:=AI (l:=m) (n:=v)
  have hf3:=AJ (l:=m) (n:=v)
  have hvl:(cP m v).length<=1048576:=gj hm
  generalize cP m v=m1 at*
  try simp (disch:=omega) only [go_sem,seval,hg3]
  split<;>rename_i c1<;>(try simp only [beq_true,beq_false,Bool.not_eq_true',Bool.not_eq_false'] at c1)<;>simp (disch:=omega) only [go_sem,seval,c1]<;>(try simp only [decide_eq_true_eq,decide_eq_false_iff_not,beq_iff_eq,beq_eq_false_iff_ne,bne_iff_ne,bne_eq_false_iff_eq,ne_eq,Decidable.not_not,Bool.and_eq_true,Bool.and_eq_false_iff,Bool.or_eq_true,Bool.or_eq_false_iff,Int.ofNat_lt,Int.ofNat_le,Bool.not_eq_eq_eq_not,Bool.not_true,Bool.not_false] at c1)<;>try simp (disch:=omega) only [go_sem,seval]
  ·refine bc (qC) (hH) (qI 27 1) qM (by rfl) (ac 400 ?_)
   simp (disch:=omega) only [go_sem,seval]
   split<;>rename_i c2<;>(try simp only [beq_true,beq_false,Bool.not_eq_true',Bool.not_eq_false'] at c2)<;>simp (disch:=omega) only [go_sem,seval,c2]<;>(try simp only [decide_eq_true_eq,decide_eq_false_iff_not,beq_iff_eq,beq_eq_false_iff_ne,bne_iff_ne,bne_eq_false_iff_eq,ne_eq,Decidable.not_not,Bool.and_eq_true,Bool.and_eq_false_iff,Bool.or_eq_true,Bool.or_eq_false_iff,Int.ofNat_lt,Int.ofNat_le,Bool.not_eq_eq_eq_not,Bool.not_true,Bool.not_false] at c2)<;>try simp (disch:=omega) only [go_sem,seval]
   ·split<;>rename_i c3<;>(try simp only [beq_true,beq_false,Bool.not_eq_true',Bool.not_eq_false'] at c3)<;>simp (disch:=omega) only [go_sem,seval,c3]<;>(try simp only [decide_eq_true_eq,decide_eq_false_iff_not,beq_iff_eq,beq_eq_false_iff_ne,bne_iff_ne,bne_eq_false_iff_eq,ne_eq,Decidable.not_not,Bool.and_eq_true,Bool.and_eq_false_iff,Bool.or_eq_true,Bool.or_eq_false_iff,Int.ofNat_lt,Int.ofNat_le,Bool.not_eq_eq_eq_not,Bool.not_true,Bool.not_false] at c3)<;>try simp (disch:=omega) only [go_sem,seval]
    ·have e:=ht c1 c2 (by omega)
     subst e
     try simp (disch:=omega) only [go_sem,seval]
     refine⟨qC,hN2 _ (j+1,m++[v]) (qI 0 27++qI 33 1++qI 28 4) (by (try dsimp only);exact⟨by omega,hvl,hn⟩) (by (try dsimp only);omega) (ab (by rfl) (by rfl) ?_)⟩
     try simp (disch:=omega) only [go_sem,seval]
     try simp [aM]
    have e:=hf3 (by omega)
    subst e
    try simp (disch:=omega) only [go_sem,seval]
    refine⟨qC,hN2 _ (j+1,m1) (qI 0 32) (by (try dsimp only);exact⟨by omega,hm,hn⟩) (by (try dsimp only);omega) (ab (by rfl) (by rfl) ?_)⟩
    try simp (disch:=omega) only [go_sem,seval]
   have e:=hf2 c2
   subst e
   try simp (disch:=omega) only [go_sem,seval]
   refine⟨qC,hN2 _ (j+1,m1) (qI 0 32) (by (try dsimp only);exact⟨by omega,hm,hn⟩) (by (try dsimp only);omega) (ab (by rfl) (by rfl) ?_)⟩
   try simp (disch:=omega) only [go_sem,seval]
  have e:=hf1 c1
  subst e
  try simp (disch:=omega) only [go_sem,seval]
  refine⟨qC,hN2 _ (j+1,m1) (qI 0 32) (by (try dsimp only);exact⟨by omega,hm,hn⟩) (by (try dsimp only);omega) (ab (by rfl) (by rfl) ?_)⟩
  try simp (disch:=omega) only [go_sem,seval]
 obtain⟨g1,hg1⟩:∃ g,g=ut bag x:=⟨_,rfl⟩
 have e:cn 2 (⟨w.a,w.b,bag,past,wA,wB,rA,rB,⟨keys,tags⟩,nums,nsA,nsB⟩:WorldD) x=(⟨w.a,w.b,g1,p1,wA,wB,rA,rB,⟨keys,tags⟩,nums,nsA,q1⟩:WorldD):=by
  rw [cn,if_neg b4,mU]
  dsimp only
  rw [hoth,<-hp1,<-hq1,<-hg1]
 rw [e] at hu
 have hS1:=eG (side:=2) (x:=x) hS
 rw [e] at hS1
 split<;>rename_i b5<;>(try simp only [beq_true,beq_false,Bool.not_eq_true',Bool.not_eq_false'] at b5)<;>simp (disch:=omega) only [go_sem,seval,b5]<;>(try simp only [decide_eq_true_eq,decide_eq_false_iff_not,beq_iff_eq,beq_eq_false_iff_ne,bne_iff_ne,bne_eq_false_iff_eq,ne_eq,Decidable.not_not,Bool.and_eq_true,Bool.and_eq_false_iff,Bool.or_eq_true,Bool.or_eq_false_iff,Int.ofNat_lt,Int.ofNat_le,Bool.not_eq_eq_eq_not,Bool.not_true,Bool.not_false] at b5)<;>try simp (disch:=omega) only [go_sem,seval]
 ·rw [zc (by omega)] at hg1
  subst hg1
  refine iu (qU [0,11]) (by kernel_rfl) (qC) (by kernel_rfl) (aa 400 ?_)
  simp (disch:=omega) only [go_sem,seval]
  refine⟨qC,ac 400 ?_⟩
  try simp (disch:=omega) only [go_sem,seval]
  refine⟨qC,hN _ (i+1,(⟨w.a,w.b,(bag++[x]),p1,wA,wB,rA,rB,⟨keys,tags⟩,nums,nsA,q1⟩:WorldD)) (qI 0 23++qI 32 1++qI 24 6) (by (try dsimp only);exact⟨by omega,rfl,rfl,hS1,hu⟩) (by (try dsimp only);omega) (ab (by rfl) (by rfl) ?_)⟩
  try simp (disch:=omega) only [go_sem,seval]
  try simp [LetterD.cs]
 rw [zd (by omega)] at hg1
 subst hg1
 try simp (disch:=omega) only [go_sem,seval]
 refine⟨qC,hN _ (i+1,(⟨w.a,w.b,g1,p1,wA,wB,rA,rB,⟨keys,tags⟩,nums,nsA,q1⟩:WorldD)) (qI 0 30) (by (try dsimp only);exact⟨by omega,rfl,rfl,hS1,hu⟩) (by (try dsimp only);omega) (ab (by rfl) (by rfl) ?_)⟩
 try simp (disch:=omega) only [go_sem,seval]
theorem O5 {l:List AddrD} {a:AddrD} (hl:l.length<=100):(aJ l a).1.length<=100:=by
 rw [aJ];split
 ·rename_i hh;have:=gg hh;dsimp only;omega
 exact hl
theorem O1 {l:List AddrD} {n:Int} (hl:l.length<=100):(be l n).1.length<=100:=by
 rw [be];split
 ·exact hl
 simp only [List.length_append,List.length_take,List.length_drop];omega
theorem O6 {e:EndD} {x:LetterD} (h:EL e):EL (bM e x).1:=by
 obtain⟨h1,h2⟩:=h
 refine jS (Q:=fun r=>EL r.1) ⟨h1,h2⟩ ?_ ?_ ?_ ?_ ?_ ?_ ?_ ?_ ?_ ?_ ?_ ?_
 ·rw [ax];split
  ·rename_i hk
   simp only [f8,Bool.and_eq_true,decide_eq_true_eq] at hk
   exact⟨by simp only [List.length_append,List.length_singleton];omega,by simp [dO]⟩
  exact⟨h1,h2⟩
 ·rw [aS];split
  ·exact⟨by simpa only [List.length_set] using h1,by simp [dO]⟩
  exact⟨h1,h2⟩
 ·rw [br];split
  ·split<;>exact⟨h1,h2⟩
  exact⟨h1,h2⟩
 ·rw [ay];split
  ·exact⟨by simpa only [List.length_set] using h1,h2⟩
  exact⟨h1,h2⟩
 ·rw [ao];split
  ·split
   ·rename_i hk
    simp only [rE,Bool.and_eq_true,decide_eq_true_eq] at hk
    refine⟨?_,h2⟩
    dsimp only
    split<;>simp only [bP,List.length_append,List.length_set,List.length_singleton]<;>omega
   split<;>exact⟨h1,h2⟩
  exact⟨h1,h2⟩
 ·rw [aE];dsimp only;split
  ·exact⟨by simpa only [bP,List.length_set] using h1,h2⟩
  exact⟨h1,h2⟩
 ·rw [bC];split
  ·exact⟨h1,O5 h2⟩
  exact⟨h1,h2⟩
 ·rw [bD];dsimp only;split<;>exact⟨h1,h2⟩
 ·rw [bE];dsimp only;split
  ·exact⟨by simpa only [List.length_map] using h1,O1 h2⟩
  exact⟨h1,h2⟩
 ·rw [bF];split<;>exact⟨h1,h2⟩
 ·rw [bA];dsimp only;split<;>exact⟨h1,h2⟩
 rw [bf];dsimp only;split
 ·exact⟨by simpa only [bP,List.length_set] using h1,h2⟩
 exact⟨h1,h2⟩
theorem Po {e:EndD} (h:EL e):EL (cL e).1:=by
 rw [cL];split<;>exact h
theorem KS:∀ {k:Nat} {e:EndD},EL e->EL (cu k e).1
 |0,_,h=>h
 |k+1,e,h=>KS (k:=k) (Po h)
theorem Pg {e:EndD} {t:List UInt8} (h:EL e):EL (cc e t).1:=by
 rw [cc];split<;>exact h
theorem Ph {e:EndD} {m:Int} (h:EL e):EL (bi e m).1:=by
 rw [bi];split<;>exact h
theorem Pp {e:EndD} (h:EL e):EL (cQ e).1:=by
 obtain⟨h1,h2⟩:=h
 rw [cQ];split
 ·split
  ·rw [bQ];exact KS ⟨by dsimp only;rw [List.length_map];exact h1,h2⟩
  rw [bQ];exact KS ⟨h1,h2⟩
 exact⟨h1,h2⟩
theorem Pq {e:EndD} {r:RoadD} {b:Bool} (h:EL e):EL (dz e r b).1:=by
 obtain⟨h1,h2⟩:=h
 rw [dz];split
 ·rename_i hk
  simp only [w_,Bool.and_eq_true,decide_eq_true_eq] at hk
  exact⟨by simp only [List.length_append,List.length_singleton];omega,h2⟩
 exact⟨h1,h2⟩
theorem OX {far:List AddrD}:∀ {l:List RoadD} {e:EndD},EL e->EL (dS far e l).1
 |[],_,h=>h
 |r::l,e,h=>OX (l:=l) (Pq h)
theorem Pa {e:EndD} (h:EL e):EL (bb e).1:=by
 rw [bb];split
 ·exact OX h
 exact h
theorem Pb {e:EndD} {a:AddrD} (h:EL e):EL (az e a).1:=by
 rw [az];split<;>exact h
theorem Pc {e:EndD} {k:Int} (h:EL e):EL (ks e k).1:=by
 rw [ks];split
 ·exact⟨by simpa only [bP,List.length_set] using h.1,h.2⟩
 exact h
theorem O7 {e:EndD} {n:Int} (h:EL e):EL (iA e n).1:=by
 rw [iA];split
 ·exact⟨by simpa only [ic,List.length_map] using h.1,h.2⟩
 exact h
theorem Pr {e:EndD} {a:ActD} (h:EL e):EL (ie e a).1:=by
 rw [ie]
 split
 ·rw [aA];exact KS (Pg h)
 split
 ·exact Ph h
 split
 ·exact Pp h
 split
 ·exact Pa h
 split
 ·exact Pb h
 split
 ·exact O7 h
 exact Pc h
def FewW (w:WorldD):Prop:=EL w.a/\EL w.b
theorem O8:EL dw:=⟨by decide,by decide⟩
theorem Mt {w:WorldD} {s:Int} (h:FewW w):EL (bB w s):=by
 unfold bB;repeat' split
 ·exact h.1
 ·exact h.2
 exact O8
theorem LV {w:WorldD} {s:Int} {e:EndD} (h:FewW w) (he:EL e):FewW (cq w s e):=by
 unfold cq;split
 ·exact⟨he,h.2⟩
 exact⟨h.1,he⟩
theorem OY {side:Int} {l:List LetterD} {w:WorldD} (h:FewW w):FewW (an side w l):=by
 obtain⟨h1,h2,_⟩:=li (side:=side) (l:=l) (w:=w)
 exact⟨by rw [h1];exact h.1,by rw [h2];exact h.2⟩
theorem Pi {w:WorldD} {x:LetterD} (h:FewW w):FewW (eF w x):=by
 rw [eF];split
 ·exact h
 rw [qe];split
 ·exact OY (LV h (O6 (Mt h)))
 exact LV h (O6 (Mt h))
theorem Ps {w:WorldD} {a:ActD} (h:FewW w):FewW (gD w a):=by
 unfold gD dT bR;repeat' split
 all_goals exact h
theorem Pj {w:WorldD} {a:ActD} (h:FewW w):FewW (iP w a).1:=by
 unfold iP;split
 ·split
  ·unfold eX;split
   ·exact h
   exact OY (LV (Ps h) (Pr (Mt h)))
  unfold ce;repeat' split
  all_goals first
   |exact h
   |exact Pi (w:={ w with bag:=fF w.bag a.pos }) h
 exact h
theorem Jt:(Er.all fun p=>t7 (EO 1 p) && t7 (EO 2 p) && zJ (pX (EO 1 p) (EO 2 p)).1 && zJ (pX (EO 1 p) (EO 2 p)).2.1)=true:=by decide+kernel
theorem Ju:(Er.all fun p=>startE (pX (EO 1 p) (EO 2 p)).1 (pX (EO 1 p) (EO 2 p)).2.1)=true:=by decide+kernel
structure Start2 (w:WorldD):Prop where
 pol:w.a.policy∈Er
 done:w.a.done=[]/\w.b.done=[]
 over:w.a.over=[]/\w.b.over=[]
theorem Ji:(Er.all fun p=>decide ((pX (EO 1 p) (EO 2 p)).1.policy=p) && decide ((pX (EO 1 p) (EO 2 p)).1.done=[]/\(pX (EO 1 p) (EO 2 p)).2.1.done=[]) && decide ((pX (EO 1 p) (EO 2 p)).1.over=[]/\(pX (EO 1 p) (EO 2 p)).2.1.over=[]))=true:=by decide+kernel
theorem F9 (W:List UInt8) (n k m:Nat):A3 W n k++A3 W (n+k) m=A3 W n (k+m):=by
 rw [A3,A3,A3,List.take_add,List.drop_drop]
theorem HL (W:List UInt8) (n k j:Nat):(A3 W n k).take j=A3 W n (min j k):=by rw [A3,A3,List.take_take]
theorem Gx {W:List UInt8} {a b:PieceD} (ha:Slice W a.pos a.text) (hb:Slice W b.pos b.text) (h1:b.pos<=a.pos+(a.text.length:Int)) (h2:a.pos<=b.pos+(b.text.length:Int)):Slice W (fh a b).pos (fh a b).text:=by
 obtain⟨n,k,e1,e2,e3,e4⟩:=ha.nat
 obtain⟨m,j,f1,f2,f3,f4⟩:=hb.nat
 rw [e3,e1,f1] at h1
 rw [f3,e1,f1] at h2
 rw [fh];split
 ·rename_i hlt
  rw [e1,f1] at hlt
  dsimp only
  rw [e1,f1,e2,f2,A4 e4,show ((n:Int) - (m:Int)).toNat=n - m by omega,HL,zQ,show min (n - m) j=n - m by omega]
  have g:A3 W m (n - m)++A3 W n k++A3 W (m+(n - m+k)) (j - (n - m+k))=A3 W m (n - m+k+(j - (n - m+k))):=by
   have h3:=F9 W m (n - m) k
   rw [show m+(n - m)=n by omega] at h3
   rw [h3,F9]
  rw [g]
  exact xH (by omega)
 rename_i hge
 rw [e1,f1] at hge
 dsimp only
 rw [e1,f1,e2,f2,A4 e4,show ((n:Int)+(k:Int) - (m:Int)).toNat=n+k - m by omega,zQ,show m+(n+k - m)=n+k by omega,F9]
 exact xH (by omega)
structure PpW (W:List UInt8) (g:PpS):Prop where
 own:Slice W g.own.pos g.own.text
 acc:∀ z∈g.acc,Slice W z.pos z.text
theorem w2 {α:Type} {l:List α} {x:α} {P:α->Prop} (hl:∀ z∈l,P z) (hx:P x):∀ z∈l++[x],P z:=fun z hz=>by
 rcases List.mem_append.1 hz with hz|hz
 ·exact hl z hz
 rw [List.mem_singleton.1 hz];exact hx
theorem HM {W:List UInt8} {g:PpS} {x:PieceD} (h:PpW W g) (hx:Slice W x.pos x.text):PpW W (gh g x):=by
 rw [gh];split
 ·exact⟨h.own,w2 h.acc hx⟩
 split
 ·refine⟨h.own,w2 ?_ hx⟩
  split
  ·exact h.acc
  exact w2 h.acc h.own
 exact⟨Gx hx h.own (by omega) (by omega),h.acc⟩
theorem HN {W:List UInt8}:∀ {l:List PieceD} {g:PpS},PpW W g->(∀ x∈l,Slice W x.pos x.text)->PpW W (mO g l)
 |[],g,h,_=>h
 |x::l,g,h,hl=>HN (l:=l) (HM h (hl x (by simp))) fun y hy=>hl y (by simp [hy])
theorem H1 {W:List UInt8} {g:PpS} (h:PpW W g):∀ z∈iN g,Slice W z.pos z.text:=by
 rw [iN];split
 ·exact h.acc
 exact w2 h.acc h.own
theorem G2 {W R:List UInt8} {p:PiecesD} {n:Int} {t:List UInt8} (h:InI W R p) (F:FineP p) (ht:Slice W n t):InI W R (kW p n t):=by
 have hA:=H1 (HN (l:=p.list) (g:=⟨⟨n,t⟩,false,[]⟩) ⟨ht,fun z hz=>by simp at hz⟩ h.list)
 rw [kW]
 generalize iN (mO ⟨⟨n,t⟩,false,[]⟩ p.list)=l at hA
 rw [iO];split
 ·rw [kV];split
  ·rename_i he
   cases l with
   |nil=>
    obtain⟨T,hT⟩:=h.pre
    have e:(default:PieceD).text=[]:=rfl
    exact⟨h.read,⟨T,by rw [List.headD_nil,e,List.append_nil];exact hT⟩,fun z hz=>by simp at hz⟩
   |cons y r=>
    rw [List.headD_cons] at he⊢
    refine⟨h.read,?_,fun z hz=>hA z (List.mem_cons_of_mem _ hz)⟩
    have hy:=hA y (by simp)
    rw [he,h.next F] at hy
    obtain⟨h1,h2⟩:=pn.1 hy
    obtain⟨T,hT⟩:=h.pre
    have hd:W.drop (R.length+p.ready.length)=T:=by
     rw [hT,List.drop_append_of_le_length (by simp)]
     simp
    refine⟨T.drop y.text.length,?_⟩
    rw [A3,hd] at h2
    dsimp only
    rw [hT]
    have:T=y.text++T.drop y.text.length:=by
     conv=>lhs;rw [<-List.take_append_drop y.text.length T]
     rw [<-h2]
    conv=>lhs;rw [this]
    simp
  exact⟨h.read,h.pre,hA⟩
 exact h
theorem Fx {W R:List UInt8} {p:PiecesD} {n:Int} {t:List UInt8} (h:InI W R p) (hs:SmallP p) (ht:Slice W n t):InI W R (bs p n t):=by
 rw [bs];split
 ·rename_i hk
  simp only [qa,Bool.and_eq_true] at hk
  have F:=dt hk.1.1 hs
  split
  ·exact h
  split
  ·have hd:=ht.drop (d:=(nextOf p - n).toNat) (by omega)
   rw [show n+((nextOf p - n).toNat:Int)=nextOf p by omega] at hd
   exact G2 h F hd
  exact G2 h F ht
 exact h
theorem HO {W R:List UInt8} {p:PiecesD} {m:Int} (h:InI W R p):InI W (R++(bK p m).2) (bK p m).1:=by
 rw [bK];split
 ·obtain⟨T,hT⟩:=h.pre
  refine⟨?_,⟨T,?_⟩,h.list⟩
  ·dsimp only
   rw [h.read]
   have:w9 p m<=p.ready.length:=Nat.min_le_right _ _
   simp only [List.length_append,List.length_take]
   omega
  dsimp only
  rw [hT]
  conv=>lhs;rw [<-List.take_append_drop (w9 p m) p.ready]
  simp
 dsimp only
 rw [List.append_nil];exact h
theorem Gy {W:List UInt8} {o:OutD} {t:List UInt8} (h:OutI W o):OutI (W++t.take (eL o t).2) (eL o t).1:=by
 rw [eL];split
 ·refine⟨⟨h.base.1,?_⟩,?_⟩
  ·have:=h.base.2
   have h2:=vJ o t
   simp only [List.length_append,List.length_take]
   omega
  dsimp only
  have:=h.base
  rw [List.drop_append_of_le_length (by omega),<-h.text]
 dsimp only
 rw [List.take_zero,List.append_nil];exact h
theorem HP {W:List UInt8} {o:OutD} {n:Int} (h:OutI W o):OutI W (nI o n):=by
 rw [nI];split
 ·rename_i hc
  obtain⟨h0,h1,h2⟩:=hc
  have F:=gp h0
  obtain⟨a1,a2,a3,a4⟩:=F
  rw [ym (by omega)] at h2
  have hb:=h.base
  refine⟨⟨by dsimp only;omega,?_⟩,?_⟩
  ·simp only [List.length_drop];omega
  dsimp only
  rw [h.text,List.drop_drop]
  congr 1
  omega
 exact h
theorem Gz {W:List UInt8} {o o':OutD} (h:OutI W o) (h1:o'.base=o.base) (h2:o'.text=o.text):OutI W o':=⟨by rw [h1,h2];exact h.base,by rw [h1,h2];exact h.text⟩
theorem FQ {W:List UInt8} {o:OutD} (h:OutI W o):OutI W (qg o):=by
 rw [qg];split
 ·exact Gz h rfl rfl
 exact h
theorem HQ {W:List UInt8} {o:OutD} (h:OutI W o):OutI W (fi o):=by
 rw [fi];split
 ·exact Gz h rfl rfl
 exact h
theorem w3 {W:List UInt8} {o:OutD} (h:OutI W o) (ho:outOk o=true):Slice W o.sent (cy o):=by
 obtain⟨a1,a2,a3,a4⟩:=gp ho
 obtain⟨n,hn⟩:=Int.eq_ofNat_of_zero_le (show 0<=o.sent by omega)
 have hb:=h.base
 have e:cy o=A3 W n (min 20 (W.length - n)):=by
  rw [cy,h.text,List.drop_drop,A3,show o.base.toNat+(o.sent - o.base).toNat=n by omega]
  rw [List.take_eq_take_iff]
  simp only [List.length_drop]
  omega
 rw [e,hn]
 exact xH (by omega)
end
end Go.Proofs.YtjghbknhneffjaaGreat
