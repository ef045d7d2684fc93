/-
  Texts merged for this claim by shake.py: what its proof needs.
-/
import Derived.Test.YtjghbknhneffjaaGreatZFnB2K
import Derived.Test.YtjghbknhneffjaaGreatZFnB2L
set_option maxHeartbeats 16000000
set_option maxRecDepth 100000
set_option linter.unusedVariables false
set_option linter.unusedSimpArgs false
namespace Go.Proofs.YtjghbknhneffjaaGreat
section
open Go.RowKit
section
variable {P:Program} {β:Be} {s:S} {a:Act} {w:World} {o:Oper} {r:OpR} {ty:TypeId}
end
end
section
open Go.RowKit
section
variable {P:Program} {β:Be} {s:S} {a:Act} {w:World} {o:Oper} {r:OpR} {ty:TypeId}
end
end
section
open Go.RowKit
end
section
end
section
open Go.RowKit
end
section
open Go.RowKit
section
variable {P:Program} {E:Entry} {F:S->Prop} {c q:Prop}
end
end
section
open Go.ChangeShapes Go.WideShapes Go.ChangeAt Go.RowKit
end
section
end
section
open Go.RowKit
end
section
open Go.ChangeShapes Go.WideShapes Go.ChangeAt Go.RowKit
end
section
def c6 (side:Int) (s:SubD):Bool:=sideAt s.road.own == side && sideAt s.road.far == IntKind.i64.wrap (3 - side)
def lb (e:EndD):Bool:=e.subs.all (c6 e.side)
def tS (b:EndD) (f:AddrD):Bool:=fN b.own f.addr || mq b.done f.id
def GF (a b:EndD):Bool:=a.far.all (tS b)
def v6 (w:WorldD):Bool:=GF w.a w.b && GF w.b w.a
theorem I0 {l:List SubD} {p:SubD->Bool}:∀ {r:List SubD} {k:Nat},r=l.drop k->(iY k r).any (fun n=>p (aN l n))=r.any fun s=>s.state == 3 && p s
 |[],k,hr=>by simp [iY]
 |s::r,k,hr=>by
  have hk:k < l.length:=by
   have:=congrArg List.length hr
   simp at this;omega
  rw [List.drop_eq_getElem_cons hk] at hr
  obtain⟨h1,h2⟩:=List.cons.inj hr
  rw [iY,List.any_cons]
  split
  ·rename_i hs
   rw [List.any_cons,I0 h2,ke hk,<-h1]
   simp [hs]
  rename_i hs
  rw [I0 h2]
  simp [hs]
theorem JE {l:List SubD} {p:SubD->Bool}:(j0 l).any (fun n=>p (aN l n))=l.any fun s=>s.state == 3 && p s:=I0 (by simp)
def p6 (s:SubD) (on:Bool) (t:SubD):Bool:=(t.road.own == s.road.far && (t.road.far == s.road.own && t.road.port == s.road.port)) && t.take == s.give && t.give == s.take && (!on || t.state == 3)
def np (b:List SubD) (on:Bool) (s:SubD):Bool:=b.any (p6 s on)
def p7 (a b:EndD):Bool:=a.subs.all fun s=>s.state != 3 || np b.subs false s
def wA (w:WorldD):Bool:=w.a.subs.any fun s=>s.state == 3 && np w.b.subs true s
def la (w:WorldD):Bool:=Es w.wroteA (w.readB++w.b.inp.ready) && Es w.wroteB (w.readA++w.a.inp.ready)
end
section
open Go.RowKit
theorem u8 (e:EndD) (hl:e.subs.length<=1048576):aP 54 [.ag (e.cs 0)] (e.hp false) (.sc (.bo (lb e))) (e.hp false):=by
 refine qE Tryz.func54 Tryz.ntmps54 Tryz.results54 fun E hE=>?_
 refine jx 7 hE (fun s (k:Nat)=>s.at (qU [0,1,2,1,4,29]) [(3,.sc (.int .i64 (k:Nat)))] (s.hp)) (fun (k:Nat)=>k<=e.subs.length/\(e.subs.drop k).all (c6 e.side)=lb e) (fun (k:Nat)=>e.subs.length - k) 0 (qI 0 8) (⟨Nat.zero_le _,rfl⟩) fun k hk N hN=>?_
 obtain⟨hk1,hk2⟩:=hk
 refine qR ?_
 refine qB (fun h=>?_) fun h=>?_
 ·rw [yC h] at hk2
  refine qX ?_
  refine qD [0,1,3,4,2,5,6,7,8,10,11,12,9,13,14] ?_
  refine aQ (cV _) [] ?_
  refine qB (fun h2=>?_) fun h2=>?_
  ·refine aQ (cV _) [] ?_
   refine qG ?_
   refine qB (fun h3=>?_) fun h3=>?_
   ·have hp:c6 e.side e.subs[k]=false:=by simp [c6,h2,h3]
    rw [hp] at hk2
    refine qJ (qI 0 7) ?_
    exact hk2
   have hp:c6 e.side e.subs[k]=true:=by simp [c6,h2,h3]
   rw [hp] at hk2
   exact qN hN (k+1) (qI 0 8) (by (try dsimp only);exact⟨by omega,hk2⟩)
  have hp:c6 e.side e.subs[k]=false:=by simp [c6,h2]
  rw [hp] at hk2
  refine qG ?_
  refine qJ (qI 0 7) ?_
  exact hk2
 rw [p0 (by omega)] at hk2
 refine qJ (qI 0 7) ?_
 exact hk2
theorem EY (a b:EndD) (h1:a.far.length<=1048576) (h2:b.own.length<=1048576) (h3:b.done.length<=1048576):aP 118 [.ag (a.cs 0),.ag (b.cs 7)] (a.hp false++b.hp false) (.sc (.bo (GF a b))) (a.hp false++b.hp false):=by
 refine qE Tryz.func118 Tryz.ntmps118 Tryz.results118 fun E hE=>?_
 refine jx 14 hE (fun s (k:Nat)=>s.at (qU [0,2,4,1,6,28]) [(5,.sc (.int .i64 (k:Nat)))] (s.hp)) (fun (k:Nat)=>k<=a.far.length/\(a.far.drop k).all (tS b)=GF a b) (fun (k:Nat)=>a.far.length - k) 0 (qI 0 16) (⟨Nat.zero_le _,rfl⟩) fun k hk N hN=>?_
 obtain⟨hk1,hk2⟩:=hk
 refine qR ?_
 refine qB (fun h=>?_) fun h=>?_
 ·rw [yC h] at hk2
  refine qX ?_
  refine qD [0,1,2,3,4,5,6,7,8,9,10,11,12,13,14,15,16,17,18,19,20] ?_
  refine aQ (ej b _ h2) (qI 7 7) ?_
  refine qB (fun h4=>?_) fun h4=>?_
  ·refine aQ (eA b.done _ h3) (qI 12 1) ?_
   refine qG ?_
   refine qB (fun h5=>?_) fun h5=>?_
   ·have hp:tS b a.far[k]=false:=by simp [tS,h4,h5]
    rw [hp] at hk2
    refine qJ (qI 0 14) ?_
    exact hk2
   have hp:tS b a.far[k]=true:=by simp [tS,h5]
   rw [hp] at hk2
   exact qN hN (k+1) (qI 0 16) (by (try dsimp only);exact⟨by omega,hk2⟩)
  have hp:tS b a.far[k]=true:=by simp [tS,h4]
  rw [hp] at hk2
  refine qG ?_
  exact qN hN (k+1) (qI 0 16) (by (try dsimp only);exact⟨by omega,hk2⟩)
 rw [p0 (by omega)] at hk2
 refine qJ (qI 0 14) ?_
 exact hk2
theorem Gf {s t:SubD} {on:Bool} (h:¬ t.road.own=s.road.far\/¬ t.road.far=s.road.own\/¬ t.road.port=s.road.port):p6 s on t=false:=by
 rw [p6]
 rcases h with h|h|h<;>simp [h]
theorem Gg {s t:SubD} {on:Bool} (h:¬ t.take=s.give):p6 s on t=false:=by simp [p6,h]
theorem Gh {s t:SubD} {on:Bool} (h:¬ t.give=s.take):p6 s on t=false:=by simp [p6,h]
theorem Ht {s t:SubD} (h:¬ t.state=3):p6 s true t=false:=by simp [p6,h]
theorem FT {s t:SubD} {on:Bool} (h1:t.road.own=s.road.far/\t.road.far=s.road.own/\t.road.port=s.road.port) (h2:t.take=s.give) (h3:t.give=s.take) (h4:on=false\/t.state=3):p6 s on t=true:=by
 rw [p6]
 obtain⟨a,b,c⟩:=h1
 rcases h4 with h4|h4<;>simp [a,b,c,h2,h3,h4]
theorem FD (r:RoadD):aP 182 [.ag r.cs] [] (.ag (RoadD.cs ⟨r.far,r.own,r.port⟩)) []:=by
 refine qE Tryz.func182 Tryz.ntmps182 Tryz.results182 fun E hE=>?_
 exact qF []
theorem FE (r:RoadD):aP 79 [.ag r.cs] [] (.ag (RoadD.cs ⟨r.far,r.own,r.port⟩)) []:=by
 refine qE Tryz.func79 Tryz.ntmps79 Tryz.results79 fun E hE=>?_
 exact qF []
theorem FU (s:SubD) (b:EndD) (on:Bool) (hl:b.subs.length<=1048576):aP 102 [.ag s.cs,.ag (b.cs 0),.sc (.bo on)] (b.hp false) (.sc (.bo (np b.subs on s))) (b.hp false):=by
 refine qE Tryz.func102 Tryz.ntmps102 Tryz.results102 fun E hE=>?_
 refine jx 7 hE (fun s (k:Nat)=>s.at (qU [0,2,4,1,6,1,8,2,13,33]) [(12,.sc (.int .i64 (k:Nat)))] (s.hp)) (fun (k:Nat)=>k<=b.subs.length/\(b.subs.drop k).any (p6 s on)=np b.subs on s) (fun (k:Nat)=>b.subs.length - k) 0 (qI 0 9) (⟨Nat.zero_le _,rfl⟩) fun k hk N hN=>?_
 obtain⟨hk1,hk2⟩:=hk
 refine qR ?_
 refine qB (fun h=>?_) fun h=>?_
 ·rw [fM h] at hk2
  refine qD [0,1,2,3,4,5,6,7,8,9,10,11,12,13,14,15,16,17,18,19,20,21,22,23,24,25,26,27,28] ?_
  refine aQ (FD s.road) [] ?_
  refine qB (fun h2=>?_) fun h2=>?_
  ·refine qB (fun h3=>?_) fun h3=>?_
   ·refine qB (fun h4=>?_) fun h4=>?_
    ·cases on with
     |true=>
      refine qX ?_
      refine qG ?_
      refine qB (fun h5=>?_) fun h5=>?_
      ·rw [FT h2 h3 h4 (.inr h5)] at hk2
       refine qJ (qI 0 7) ?_
       exact hk2
      rw [Ht h5] at hk2
      exact qN hN (k+1) (qI 0 9) (by (try dsimp only);exact⟨by omega,hk2⟩)
     |false=>
      rw [FT h2 h3 h4 (.inl rfl)] at hk2
      refine qX ?_
      refine qG ?_
      refine qJ (qI 0 7) ?_
      exact hk2
    rw [Gh h4] at hk2
    refine qG ?_
    exact qN hN (k+1) (qI 0 9) (by (try dsimp only);exact⟨by omega,hk2⟩)
   rw [Gg h3] at hk2
   refine qG ?_
   exact qN hN (k+1) (qI 0 9) (by (try dsimp only);exact⟨by omega,hk2⟩)
  rw [Gf h2] at hk2
  refine qG ?_
  exact qN hN (k+1) (qI 0 9) (by (try dsimp only);exact⟨by omega,hk2⟩)
 rw [fu (by omega)] at hk2
 refine qJ (qI 0 7) ?_
 exact hk2
theorem Gi {P:SubD->Bool} {l:List SubD} {k:Nat} {r:Bool} (h:k < l.length) (hr:(false || (l.drop k).any P)=r):(P l[k] || (l.drop (k+1)).any P)=r:=by
 rw [<-hr,fM h,Bool.false_or]
theorem E0 (a b:EndD) (h1:a.subs.length<=1048576) (h2:b.subs.length<=1048576):aP 52 [.ag (a.cs 0),.ag (b.cs 7)] (a.hp false++b.hp false) (.sc (.bo (p7 a b))) (a.hp false++b.hp false):=by
 refine fc Tryz.func52 (by kernel_rfl) rfl fun E hE=>ac 400 ?_
 simp (disch:=omega) only [Tryz.ntmps52,Tryz.results52,go_sem,seval]
 refine gN 14 hE (fun s (k:Nat)=>s.at (qU [0,2,4,1,6,57]) [(5,.sc (.int .i64 (k:Nat)))] (s.hp)) (fun (k:Nat)=>k<=a.subs.length/\(a.subs.drop k).all (fun s=>s.state != 3 || np b.subs false s)=p7 a b) (fun (k:Nat)=>a.subs.length - k) 0 (qI 0 16) (qC) (⟨Nat.zero_le _,rfl⟩) (bw (by rfl) (by rfl) ?_) fun k hk N hN=>?_
 ·try simp (disch:=omega) only [go_sem,seval]
 obtain⟨hk1,hk2⟩:=hk
 refine ac 400 ?_
 try simp (disch:=omega) only [go_sem,seval]
 split<;>rename_i h<;>(try simp only [beq_true,beq_false,Bool.not_eq_true',Bool.not_eq_false'] at h)<;>simp (disch:=omega) only [go_sem,seval,h]<;>(try simp only [decide_eq_true_eq,decide_eq_false_iff_not,beq_iff_eq,beq_eq_false_iff_ne,bne_iff_ne,bne_eq_false_iff_eq,ne_eq,Decidable.not_not,Bool.and_eq_true,Bool.and_eq_false_iff,Bool.or_eq_true,Bool.or_eq_false_iff,Int.ofNat_lt,Int.ofNat_le,Bool.not_eq_eq_eq_not,Bool.not_true,Bool.not_false] at h)<;>try simp (disch:=omega) only [go_sem,seval]
 ·rw [yC h] at hk2
  generalize hR:(a.subs[k].state != 3 || np b.subs false a.subs[k])=r at hk2
  obtain⟨q,hq⟩:∃ q,q=(a.subs[k].state != 3):=⟨_,rfl⟩
  try simp (disch:=omega) only [go_sem,seval]
  try rw [<-hq]
  refine gN 14 hE (fun s (y:Nat×Bool)=>s.at (qU [0,2,9,5,15,47]) [(8,.sc (.int .i64 (y.1:Nat))),(7,.sc (.bo y.2))] (s.hp)) (fun (y:Nat×Bool)=>y.1<=b.subs.length/\(y.2 || (b.subs.drop y.1).any (p6 a.subs[k] false))=r) (fun (y:Nat×Bool)=>b.subs.length - y.1) (0,q) (qI 0 17) (qC) (⟨Nat.zero_le _,by rw [hq];exact hR⟩) (bw (by rfl) (by rfl) ?_) fun y hy N2 hN2=>?_
  ·try simp (disch:=omega) only [go_sem,seval]
   try exact⟨rfl,hq⟩
  obtain⟨j,has⟩:=y
  obtain⟨hy1,hy2⟩:=hy
  dsimp only at hy1 hy2
  refine ac 400 ?_
  cases has with
  |true=>
   rw [Bool.true_or] at hy2
   subst hy2
   have hkk:(true && (List.drop (k+1) a.subs).all fun s=>s.state != 3 || np b.subs false s)=p7 a b:=hk2
   try simp (disch:=omega) only [go_sem,seval]
   split<;>rename_i h4<;>(try simp only [beq_true,beq_false,Bool.not_eq_true',Bool.not_eq_false'] at h4)<;>simp (disch:=omega) only [go_sem,seval,h4]<;>(try simp only [decide_eq_true_eq,decide_eq_false_iff_not,beq_iff_eq,beq_eq_false_iff_ne,bne_iff_ne,bne_eq_false_iff_eq,ne_eq,Decidable.not_not,Bool.and_eq_true,Bool.and_eq_false_iff,Bool.or_eq_true,Bool.or_eq_false_iff,Int.ofNat_lt,Int.ofNat_le,Bool.not_eq_eq_eq_not,Bool.not_true,Bool.not_false] at h4)<;>try simp (disch:=omega) only [go_sem,seval]
   ·refine⟨qC,hN _ (k+1) (qI 0 16) (by (try dsimp only);exact⟨by omega,hkk⟩) (by (try dsimp only);omega) (bw (by rfl) (by rfl) ?_)⟩
    try simp (disch:=omega) only [go_sem,seval]
   refine⟨qC,hN _ (k+1) (qI 0 16) (by (try dsimp only);exact⟨by omega,hkk⟩) (by (try dsimp only);omega) (bw (by rfl) (by rfl) ?_)⟩
   try simp (disch:=omega) only [go_sem,seval]
  |false=>
   try simp (disch:=omega) only [go_sem,seval]
   split<;>rename_i h4<;>(try simp only [beq_true,beq_false,Bool.not_eq_true',Bool.not_eq_false'] at h4)<;>simp (disch:=omega) only [go_sem,seval,h4]<;>(try simp only [decide_eq_true_eq,decide_eq_false_iff_not,beq_iff_eq,beq_eq_false_iff_ne,bne_iff_ne,bne_eq_false_iff_eq,ne_eq,Decidable.not_not,Bool.and_eq_true,Bool.and_eq_false_iff,Bool.or_eq_true,Bool.or_eq_false_iff,Int.ofNat_lt,Int.ofNat_le,Bool.not_eq_eq_eq_not,Bool.not_true,Bool.not_false] at h4)<;>try simp (disch:=omega) only [go_sem,seval]
   ·have hy3:=Gi h4 hy2
    refine iu (qU [0,21]) (by kernel_rfl) (qC) (by kernel_rfl) (aa 400 ?_)
    simp (disch:=omega) only [go_sem,seval]
    refine it (qC) (FE a.subs[k].road) [] qM (by rfl) (by rfl) (aa 400 ?_)
    simp (disch:=omega) only [go_sem,seval]
    split<;>rename_i h5<;>(try simp only [beq_true,beq_false,Bool.not_eq_true',Bool.not_eq_false'] at h5)<;>simp (disch:=omega) only [go_sem,seval,h5]<;>(try simp only [decide_eq_true_eq,decide_eq_false_iff_not,beq_iff_eq,beq_eq_false_iff_ne,bne_iff_ne,bne_eq_false_iff_eq,ne_eq,Decidable.not_not,Bool.and_eq_true,Bool.and_eq_false_iff,Bool.or_eq_true,Bool.or_eq_false_iff,Int.ofNat_lt,Int.ofNat_le,Bool.not_eq_eq_eq_not,Bool.not_true,Bool.not_false] at h5)<;>try simp (disch:=omega) only [go_sem,seval]
    ·split<;>rename_i h6<;>(try simp only [beq_true,beq_false,Bool.not_eq_true',Bool.not_eq_false'] at h6)<;>simp (disch:=omega) only [go_sem,seval,h6]<;>(try simp only [decide_eq_true_eq,decide_eq_false_iff_not,beq_iff_eq,beq_eq_false_iff_ne,bne_iff_ne,bne_eq_false_iff_eq,ne_eq,Decidable.not_not,Bool.and_eq_true,Bool.and_eq_false_iff,Bool.or_eq_true,Bool.or_eq_false_iff,Int.ofNat_lt,Int.ofNat_le,Bool.not_eq_eq_eq_not,Bool.not_true,Bool.not_false] at h6)<;>try simp (disch:=omega) only [go_sem,seval]
     ·refine⟨qC,ac 400 ?_⟩
      try simp (disch:=omega) only [go_sem,seval]
      cases hg:(b.subs[j].give == a.subs[k].take) with
      |true=>
       have hg':b.subs[j].give=a.subs[k].take:=by simpa using hg
       rw [FT h5 h6 hg' (.inl rfl)] at hy3
       try simp (disch:=omega) only [go_sem,seval,hg]
       refine⟨qC,hN2 _ (j+1,true) (qI 0 17) (by (try dsimp only);exact⟨by omega,hy3⟩) (by (try dsimp only);omega) (bw (by rfl) (by rfl) ?_)⟩
       try simp (disch:=omega) only [go_sem,seval,hg]
      |false=>
       have hg':¬ b.subs[j].give=a.subs[k].take:=by simpa using hg
       rw [Gh hg'] at hy3
       try simp (disch:=omega) only [go_sem,seval,hg]
       refine⟨qC,hN2 _ (j+1,false) (qI 0 17) (by (try dsimp only);exact⟨by omega,hy3⟩) (by (try dsimp only);omega) (bw (by rfl) (by rfl) ?_)⟩
       try simp (disch:=omega) only [go_sem,seval,hg]
     rw [Gg h6] at hy3
     refine⟨qC,ac 400 ?_⟩
     try simp (disch:=omega) only [go_sem,seval]
     refine⟨qC,hN2 _ (j+1,false) (qI 0 17) (by (try dsimp only);exact⟨by omega,hy3⟩) (by (try dsimp only);omega) (bw (by rfl) (by rfl) ?_)⟩
     try simp (disch:=omega) only [go_sem,seval]
    rw [Gf h5] at hy3
    refine⟨qC,ac 400 ?_⟩
    try simp (disch:=omega) only [go_sem,seval]
    refine⟨qC,hN2 _ (j+1,false) (qI 0 17) (by (try dsimp only);exact⟨by omega,hy3⟩) (by (try dsimp only);omega) (bw (by rfl) (by rfl) ?_)⟩
    try simp (disch:=omega) only [go_sem,seval]
   rw [fu (by omega)] at hy2
   rw [<-hy2] at hk2
   refine aB (qI 0 14) (qC) _ (by simp only [go_sem];rfl) (by rfl) (by rfl) ?_
   simp (disch:=omega) only [go_sem,seval]
   exact hk2
 rw [p0 (by omega)] at hk2
 refine aB (qI 0 14) (qC) _ (by simp only [go_sem];rfl) (by rfl) (by rfl) ?_
 simp (disch:=omega) only [go_sem,seval]
 exact hk2
theorem I8 (w:WorldD) (h1:w.a.subs.length<=1048576) (h2:w.b.subs.length<=1048576):aP 45 [.ag (w.cs 0)] (w.hp false) (.sc (.bo (wA w))) (w.hp false):=by
 have hon:=pO w.a.subs
 refine qE Tryz.func45 Tryz.ntmps45 Tryz.results45 fun E hE=>?_
 refine qK (m2 w.a h1) (qI 0 7) ?_
 refine jx 21 hE (fun s (k:Nat)=>s.at (qU [0,1,2,1,4,3,10,13]) [(9,.sc (.int .i64 (k:Nat)))] (s.hp)) (fun (k:Nat)=>k<=(j0 w.a.subs).length/\((j0 w.a.subs).drop k).any (fun n=>np w.b.subs true (aN w.a.subs n))=wA w) (fun (k:Nat)=>(j0 w.a.subs).length - k) 0 (qI 0 23) (⟨Nat.zero_le _,JE⟩) fun k hk N hN=>?_
 obtain⟨hk1,hk2⟩:=hk
 refine qR ?_
 refine qB (fun h=>?_) fun h=>?_
 ·rw [fM h] at hk2
  have hlt:=yD h
  rw [ke hlt] at hk2
  refine qX ?_
  refine qD [0,1,2,3,4,5,6,7,8] ?_
  refine aQ (FU w.a.subs[(j0 w.a.subs)[k]] w.b true h2) (qI 7 7) ?_
  refine qG ?_
  refine qB (fun h3=>?_) fun h3=>?_
  ·rw [h3] at hk2
   refine qJ (qI 0 21) ?_
   exact hk2
  rw [h3] at hk2
  exact qN hN (k+1) (qI 0 23) (by (try dsimp only);exact⟨by omega,hk2⟩)
 rw [fu (by omega)] at hk2
 refine qJ (qI 0 21) ?_
 exact hk2
theorem I9 (w:WorldD) (h1:w.a.subs.length<=1048576) (h2:w.b.subs.length<=1048576):aP 23 [.ag (w.cs 0)] (w.hp false) (.sc (.bo (wA w))) (w.hp false):=by
 have hon:=pO w.a.subs
 refine qE Tryz.func23 Tryz.ntmps23 Tryz.results23 fun E hE=>?_
 refine qK (oK w.a h1) (qI 0 7) ?_
 refine jx 21 hE (fun s (k:Nat)=>s.at (qU [0,1,2,1,5,60]) [(4,.sc (.int .i64 (k:Nat)))] (s.hp)) (fun (k:Nat)=>k<=(j0 w.a.subs).length/\((j0 w.a.subs).drop k).any (fun n=>np w.b.subs true (aN w.a.subs n))=wA w) (fun (k:Nat)=>(j0 w.a.subs).length - k) 0 (qI 0 23) (⟨Nat.zero_le _,JE⟩) fun k hk N hN=>?_
 obtain⟨hk1,hk2⟩:=hk
 refine qR ?_
 refine qB (fun h=>?_) fun h=>?_
 ·rw [fM h] at hk2
  have hlt:=yD h
  rw [ke hlt] at hk2
  obtain⟨s0,hs0⟩:∃ x,x=w.a.subs[(j0 w.a.subs)[k]]:=⟨_,rfl⟩
  rw [<-hs0] at hk2
  refine qX ?_
  refine qD [0,1,2,3,4,5,6,7,8,9,10] ?_
  refine qG ?_
  rw [<-hs0]
  refine jx 21 hE (fun s (j:Nat)=>s.at (qU [0,1,2,1,7,7,15,50]) [(6,.sc (.int .i64 (j:Nat)))] (s.hp)) (fun (j:Nat)=>j<=w.b.subs.length/\(w.b.subs.drop j).any (p6 s0 true)=np w.b.subs true s0) (fun (j:Nat)=>w.b.subs.length - j) 0 (qI 0 24) (⟨Nat.zero_le _,rfl⟩) fun j hj N2 hN2=>?_
  obtain⟨hj1,hj2⟩:=hj
  refine qR ?_
  refine qB (fun h3=>?_) fun h3=>?_
  ·rw [fM h3] at hj2
   refine qX ?_
   refine qD [0,1,2,3,4,5,6,7,8,9,10,11,12,13,14,15,16,17,18,19,20,21,22,23,24] ?_
   refine qB (fun h4=>?_) fun h4=>?_
   ·refine aQ (FE s0.road) [] ?_
    refine qB (fun h5=>?_) fun h5=>?_
    ·refine qB (fun h6=>?_) fun h6=>?_
     ·refine qG ?_
      refine qB (fun h7=>?_) fun h7=>?_
      ·rw [FT h5 h6 h7 (.inr h4)] at hj2
       rw [<-hj2] at hk2
       refine qJ (qI 0 21) ?_
       exact hk2
      rw [Gh h7] at hj2
      exact qN hN2 (j+1) (qI 0 24) (by (try dsimp only);exact⟨by omega,hj2⟩)
     rw [Gg h6] at hj2
     refine qG ?_
     exact qN hN2 (j+1) (qI 0 24) (by (try dsimp only);exact⟨by omega,hj2⟩)
    rw [Gf h5] at hj2
    refine qG ?_
    exact qN hN2 (j+1) (qI 0 24) (by (try dsimp only);exact⟨by omega,hj2⟩)
   rw [Ht h4] at hj2
   refine qG ?_
   exact qN hN2 (j+1) (qI 0 24) (by (try dsimp only);exact⟨by omega,hj2⟩)
  rw [fu (by omega)] at hj2
  rw [<-hj2] at hk2
  exact qN hN (k+1) (qI 0 23) (by (try dsimp only);exact⟨by omega,hk2⟩)
 rw [fu (by omega)] at hk2
 refine qJ (qI 0 21) ?_
 exact hk2
theorem HX {n:Int}:gA n=true↔N9 n:=by simp [gA,N9]
theorem u0 {r:RoadD}:ms r=true↔RN r:=by simp [ms,RN,HX,and_assoc]
theorem g9 {a b:RoadD}:dM a b=true↔a=b:=⟨oM,fun h=>by subst h;simp [dM]⟩
theorem Hg {l:List Int} {t:List AddrD}:oH l t=true↔IdOk l t:=by
 simp only [oH,Bool.and_eq_true]
 constructor
 ·rintro⟨h1,h2⟩
  have hc:∀ (j:Nat) (hj:j+1 < l.length),l[j] < l[j+1]:=by
   intro j hj
   have:=iz h1 hj
   simp only [cK,Bool.or_eq_true,beq_iff_eq,decide_eq_true_eq,Nat.add_sub_cancel,A1 hj,A1 (show j < l.length by omega)] at this
   rcases this with h|h
   ·omega
   exact h
  have hid:∀ (j i:Nat) (hj:j < l.length) (hi:i < j),l[i] < l[j]:=by
   intro j
   induction j with
   |zero=>intro i hj hi;omega
   |succ j ih=>
    intro i hj hi
    have h3:=hc j hj
    by_cases hij:i=j
    ·subst hij;exact h3
    have:=ih i (by omega) (by omega);omega
  refine⟨?_,fun n hn=>?_⟩
  ·rw [List.pairwise_iff_getElem]
   intro i j hi hj hij
   exact hid j i hj hij
  obtain⟨j,hj,rfl⟩:=List.getElem_of_mem hn
  have:=iz h2 hj
  simp only [fE,Bool.and_eq_true,vP,decide_eq_true_eq,A1 hj] at this
  exact⟨this.1,uR.1 this.2⟩
 rintro⟨h1,h2⟩
 rw [List.pairwise_iff_getElem] at h1
 refine⟨ed fun j hj=>?_,ed fun j hj=>?_⟩
 ·simp only [cK,Bool.or_eq_true,beq_iff_eq,decide_eq_true_eq]
  rcases Nat.eq_zero_or_pos j with h0|h0
  ·exact .inl h0
  refine .inr ?_
  rw [A1 hj,A1 (show j - 1 < l.length by omega)]
  exact h1 (j - 1) j (by omega) hj (by omega)
 have:=h2 l[j] (List.getElem_mem hj)
 simp only [fE,Bool.and_eq_true,vP,decide_eq_true_eq,A1 hj]
 exact⟨this.1,uR.2 this.2⟩
theorem Gr {l:List Int} {n:Int}:n∈gf l n:=by
 rw [gf];split
 ·rename_i h
  obtain⟨h1,h2⟩:=h
  rw [A1 h1] at h2
  rw [<-h2];exact List.getElem_mem _
 simp
theorem Gs {l:List Int} {n x:Int} (h:x∈l):x∈gf l n:=by
 rw [gf];split
 ·exact h
 have:=List.take_append_drop (gd l n) l
 rw [<-this] at h
 rcases List.mem_append.1 h with h|h
 ·exact List.mem_append_left _ (List.mem_append_left _ h)
 exact List.mem_append_right _ h
theorem E2 {l:List HalfD}:cv l=true↔HaOk l:=by
 simp only [cv,Bool.and_eq_true,decide_eq_true_eq]
 have hat:∀ (j:Nat) (hj:j < l.length),a_ l l[j].road=(j:Int)↔∀ (i:Nat) (hi:i < j),¬ l[i].road=l[j].road:=by
  intro j hj
  rw [a_,xE]
  constructor
  ·rintro⟨_,_,h⟩ i hi
   have:=h i hi
   intro hc
   rw [hc,g9.2 rfl] at this
   cases this
  intro h
  exact⟨hj,g9.2 rfl,fun i hi=>by
   cases hq:dM l[i].road l[j].road with
   |false=>rfl
   |true=>exact absurd (g9.1 hq) (h i hi)⟩
 have hel:∀ (j:Nat) (hj:j < l.length),fO l j=true↔HaE l[j]/\a_ l l[j].road=(j:Int):=by
  intro j hj
  simp only [fO,tG hj,Bool.and_eq_true,u0,List.all_cons,List.all_nil,HX,beq_iff_eq,and_true,HaE]
 constructor
 ·rintro⟨h1,h2⟩
  have hu:=fun (j:Nat) (hj:j < l.length)=>(hel j hj).1 (iz h2 hj)
  refine⟨by omega,fun h hh=>?_,?_⟩
  ·obtain⟨j,hj,rfl⟩:=List.getElem_of_mem hh
   exact (hu j hj).1
  rw [List.pairwise_iff_getElem]
  intro i j hi hj hij
  exact (hat j hj).1 (hu j hj).2 i hij
 rintro⟨h1,h2,h3⟩
 rw [List.pairwise_iff_getElem] at h3
 exact⟨by omega,ed fun j hj=>(hel j hj).2 ⟨h2 _ (List.getElem_mem hj),(hat j hj).2 fun i hi=>h3 i j (by omega) hj hi⟩⟩
theorem HaOk.young {l:List HalfD} {n:Int} (h:HaOk l):HaOk (bx l n):=h.sub List.filter_sublist
theorem FN {l:List SubD} {r:RoadD}:aU l r < 0↔∀ s∈l,s.state=4\/¬ s.road=r:=by
 rw [aU,xF]
 refine forall_congr' fun s=>forall_congr' fun hs=>?_
 by_cases h1:s.state=4
 ·simp [h1]
 by_cases h2:s.road=r
 ·subst h2;simp [h1,g9]
 have:dM s.road r=false:=by
  cases hq:dM s.road r with
  |false=>rfl
  |true=>exact absurd (g9.1 hq) h2
 simp [this,h2]
theorem EV {l:List SubD} {r:RoadD} {n:Nat}:aU l r=(n:Int)↔∃ h:n < l.length,¬ l[n].state=4/\l[n].road=r/\∀ (i:Nat) (hi:i < n),l[i].state=4\/¬ l[i].road=r:=by
 rw [aU,xE]
 refine exists_congr fun h=>?_
 have hp:∀ s:SubD,(s.state != 4 && dM s.road r)=false↔s.state=4\/¬ s.road=r:=by
  intro s
  by_cases h1:s.state=4
  ·simp [h1]
  cases hq:dM s.road r with
  |false=>simp [h1,show ¬ s.road=r from fun hc=>by rw [g9.2 hc] at hq;cases hq]
  |true=>simp [h1,g9.1 hq]
 simp only [hp]
 rw [<-and_assoc]
 refine and_congr_left fun _=>?_
 simp [g9]
theorem GM {l:List SubD}:dy (cz l) l.length=true↔SuOk l:=by
 have hel:∀ (j:Nat) (hj:j < l.length),cz l j=true↔SuE l[j]/\(l[j].state=4\/aU l l[j].road=(j:Int)):=by
  intro j hj
  simp only [cz,ke hj,Bool.and_eq_true,vP,u0,List.all_cons,List.all_nil,HX,beq_iff_eq,and_true,Bool.or_eq_true,SuE]
  constructor
  ·rintro⟨⟨⟨a,b⟩,c⟩,d⟩;exact⟨⟨a,b,c⟩,d⟩
  rintro⟨⟨a,b,c⟩,d⟩;exact⟨⟨⟨a,b⟩,c⟩,d⟩
 constructor
 ·intro h2
  have hu:=fun (j:Nat) (hj:j < l.length)=>(hel j hj).1 (iz h2 hj)
  refine⟨fun s hs=>?_,?_⟩
  ·obtain⟨j,hj,rfl⟩:=List.getElem_of_mem hs
   exact (hu j hj).1
  rw [List.pairwise_iff_getElem]
  intro i j hi hj hij
  rcases (hu j hj).2 with h|h
  ·exact .inr (.inl h)
  obtain⟨_,_,_,h⟩:=EV.1 h
  rcases h i hij with h|h
  ·exact .inl h
  exact .inr (.inr h)
 rintro⟨h2,h3⟩
 rw [List.pairwise_iff_getElem] at h3
 refine ed fun j hj=>(hel j hj).2 ⟨h2 _ (List.getElem_mem hj),?_⟩
 by_cases h4:l[j].state=4
 ·exact .inl h4
 refine .inr (EV.2 ⟨hj,h4,rfl,fun i hi=>?_⟩)
 rcases h3 i j (by omega) hj hi with h|h|h
 ·exact .inl h
 ·exact absurd h h4
 exact .inr h
theorem SuOk.st4 {l:List SubD} {n:Nat} (h:SuOk l) (hn:n < l.length):SuOk (bP l n 4):=by
 rw [gW hn]
 exact h.set hn ((h.el _ (List.getElem_mem hn)).st (by omega)) rfl fun _=>rfl
theorem p5 {e:EndD}:af e=true↔OkE e:=by
 simp only [af,Bool.and_eq_true,vP,sM,E2,Hg,GM,List.all_cons,List.all_nil,HX,decide_eq_true_eq,and_true]
 constructor
 ·rintro⟨⟨⟨⟨⟨⟨⟨⟨⟨⟨⟨⟨⟨a1,a2⟩,a3⟩,a4⟩,a5⟩,a6⟩,a7⟩,a8⟩,a9⟩,a10⟩,a11⟩,a12⟩,a13⟩,a14⟩
  exact⟨a1,a2,a3,a4,a5,a6,a7,a8,a9,a10,a11,by omega,a13,a14⟩
 rintro⟨a1,a2,a3,a4,a5,a6,a7,a8,a9,a10,a11,a12,a13,a14⟩
 exact⟨⟨⟨⟨⟨⟨⟨⟨⟨⟨⟨⟨⟨a1,a2⟩,a3⟩,a4⟩,a5⟩,a6⟩,a7⟩,a8⟩,a9⟩,a10⟩,a11⟩,by omega⟩,a13⟩,a14⟩
theorem v2 {x:LetterD} (h:dZ x=true):N9 x.frm/\N9 x.to/\N9 x.port/\N9 x.nonce/\N9 x.give/\N9 x.sgn/\N9 x.id/\N9 x.addr/\N9 x.pos:=by
 simp only [dZ,bj,iv,List.all_cons,List.all_nil,gA,Bool.and_eq_true,decide_eq_true_eq,Bool.and_true] at h
 simp only [N9]
 omega
theorem Fq {b:BucketD} (h:bucketOk b=true):bucketOk (bI b).1=true:=by
 rw [bI];split
 ·rename_i hc
  simp only [bucketOk,Bool.and_eq_true,vP] at h⊢
  have:=hc.2
  omega
 exact h
theorem FO {b:BucketD} (h:bucketOk b=true):bucketOk (cr b)=true:=by
 rw [cr,if_pos h]
 simp only [bucketOk,Bool.and_eq_true,vP] at h⊢
 omega
theorem u3 {o:OutD}:outOk o=true↔FineO o:=by
 refine⟨gp,fun h=>?_⟩
 obtain⟨h1,h2,h3,h4,h5⟩:=h
 simp only [outOk,gA,bj,Bool.and_eq_true,decide_eq_true_eq]
 rw [ym (by omega)]
 omega
theorem HY {o:OutD} {n:Int} (h:outOk o=true) (hn:N9 n):outOk (nI o n)=true:=by
 have F:=gp h
 obtain⟨h1,h2,h3,h4,h5⟩:=F
 rw [nI];split
 ·rename_i hc
  obtain⟨_,c1,c2⟩:=hc
  rw [ym (by omega)] at c2
  rw [u3]
  refine⟨hn,h2,?_,?_⟩
  ·simp only [List.length_drop];omega
  simp only [List.length_drop];split<;>omega
 exact h
theorem wp {l:List Int} {n:Int}:mq l n=true↔n∈l:=by simp [mq]
theorem HI {l:List Int} {n:Int}:mq l n=false↔¬ n∈l:=by rw [<-wp];simp
theorem ws {l:List SubD} {r:RoadD} (h:0<=aU l r):∃ n:Nat,aU l r=(n:Int)/\∃ hn:n < l.length,¬ l[n].state=4/\l[n].road=r/\∀ (i:Nat) (hi:i < n),l[i].state=4\/¬ l[i].road=r:=by
 obtain⟨n,hn⟩:=xG h
 exact⟨n,hn,EV.1 hn⟩
theorem Fr {l:List HalfD} {r:RoadD} (h:0<=a_ l r):∃ n:Nat,a_ l r=(n:Int)/\∃ hn:n < l.length,l[n].road=r:=by
 obtain⟨n,hn⟩:=xG h
 obtain⟨h1,h2,_⟩:=xE.1 hn
 exact⟨n,hn,h1,g9.1 h2⟩
theorem EW {l:List AddrD} {k:Int} (h:0<=aG l k):∃ n:Nat,aG l k=(n:Int)/\∃ hn:n < l.length,l[n].id=k:=by
 obtain⟨n,hn⟩:=xG h
 obtain⟨h1,h2,_⟩:=xE.1 hn
 exact⟨n,hn,h1,by simpa using h2⟩
theorem Hh {e:EndD} {x:LetterD} (h:0<=fo e x):∃ n:Nat,fo e x=(n:Int)/\cF e x=(n:Int)/\∃ hn:n < e.subs.length,e.subs[n].state=3/\e.subs[n].take=x.sgn/\e.subs[n].road=roadOf x/\dZ x=true:=by
 rcases f9 e x with h0|⟨n,h1,h2,h3,_,h5⟩
 ·omega
 refine⟨n,h1,h2,h3,?_⟩
 rw [cF] at h2
 split at h2
 ·omega
 rename_i h6
 split at h2
 ·rename_i h7
  obtain⟨m,hm,hmn,_,hr,_⟩:=ws (show 0<=aU e.subs (roadOf x) by omega)
  have:m=n:=by omega
  subst this
  rw [hm,Int.toNat_natCast,ke hmn] at h7
  exact⟨h7.1,h7.2,hr,h5⟩
 omega
theorem Hi {x:LetterD} (h:dZ x=true):RN (roadOf x):=by
 obtain⟨h1,h2,h3,_⟩:=v2 h
 exact⟨h2,h1,h3⟩
theorem GY {e:EndD} {x:LetterD} (h:OkE e) (hst:e.state=2):OkE (bM e x).1/\(bM e x).1.state=2:=by
 refine jS (Q:=fun r=>OkE r.1/\r.1.state=2) ⟨h,hst⟩ ?_ ?_ ?_ ?_ ?_ ?_ ?_ ?_ ?_ ?_ ?_ ?_
 ·unfold ax;split
  ·rename_i hk
   simp only [f8,Bool.and_eq_true,decide_eq_true_eq] at hk
   omega
  exact⟨h,hst⟩
 ·unfold aS;split
  ·rename_i hk
   simp only [i2,Bool.and_eq_true,decide_eq_true_eq] at hk
   omega
  exact⟨h,hst⟩
 ·unfold br;split
  ·rename_i hk
   simp only [rF,Bool.and_eq_true,decide_eq_true_eq,vP] at hk
   obtain⟨⟨⟨⟨⟨⟨⟨⟨⟨k1,k2⟩,k3⟩,k4⟩,k5⟩,k6⟩,k7⟩,k8⟩,k9⟩,k10⟩:=hk
   have hd:N9 (e.draw+4):=⟨by omega,by omega⟩
   split
   ·rename_i hs
    simp only [fg,Bool.and_eq_true,decide_eq_true_eq] at hs
    obtain⟨n,e1,hn,_⟩:=Fr hs.1.1
    refine⟨⟨h.side,h.state,h.pol,h.own,h.far,?_,Fq h.bucket,h.out,h.inp,h.done,h.over,h.subs8,h.nums,h.subs⟩,hst⟩
    dsimp only
    rw [wP,e1,Int.toNat_natCast,g0 hn]
    refine h.halfs.pt (by simp) fun i h1 h2=>?_
    rw [List.getElem_set]
    have hel:=h.halfs.el _ (List.getElem_mem h2)
    split
    ·rename_i e;subst e
     exact⟨⟨hel.1,hel.2.1,hel.2.2.1,hel.2.2.2.1,hel.2.2.2.2.1,by have:=h.nums.2.2.2.1;simp only [N9] at this⊢;omega⟩,rfl⟩
    exact⟨hel,rfl⟩
   refine⟨⟨h.side,h.state,h.pol,h.own,h.far,?_,Fq h.bucket,h.out,h.inp,h.done,h.over,h.subs8,⟨h.nums.1,h.nums.2.1,hd,h.nums.2.2.2⟩,h.subs⟩,hst⟩
   dsimp only
   rw [bJ];split
   ·rename_i hh;exact E2.1 hh
   exact h.halfs
  exact⟨h,hst⟩
 ·unfold ay;split
  ·rename_i hk
   simp only [tO,Bool.and_eq_true,decide_eq_true_eq] at hk
   obtain⟨⟨⟨⟨⟨k1,k2⟩,k3⟩,k4⟩,k5⟩,k6⟩:=hk
   obtain⟨n,e1,hn,_,_,_⟩:=ws k4
   rw [e1,Int.toNat_natCast,ke hn] at k5
   obtain⟨_,_,_,x1,x2,_⟩:=v2 k2
   have hel:=h.subs.el _ (List.getElem_mem hn)
   refine⟨⟨h.side,h.state,h.pol,h.own,h.far,h.halfs,h.bucket,h.out,h.inp,h.done,h.over,by dsimp only;rw [List.length_set];exact h.subs8,h.nums,?_⟩,hst⟩
   dsimp only
   rw [e1,Int.toNat_natCast,ke hn]
   exact h.subs.set hn ⟨by simp [mD],hel.2.1,hel.2.2.1,x1,x2,hel.2.2.2.2.2.1,by simp [mD,N9]⟩ rfl fun h4=>by omega
  exact⟨h,hst⟩
 ·unfold ao;split
  ·rename_i hk
   simp only [mE,Bool.and_eq_true,decide_eq_true_eq] at hk
   split
   ·rename_i ha
    simp only [rE,Bool.and_eq_true,decide_eq_true_eq] at ha
    obtain⟨i,e2,hi,_⟩:=Fr ha.1.1
    have hel:=h.halfs.el _ (List.getElem_mem hi)
    have hsu:SuE (jI (roadOf x) (wP e x)):=by
     rw [wP,e2,Int.toNat_natCast,g0 hi]
     exact⟨by simp [jI],Hi hk.1.2,hel.2.2.1,hel.2.1,hel.2.2.2.1,hel.2.2.2.2.1,by simp [jI,N9]⟩
    refine⟨⟨h.side,h.state,h.pol,h.own,h.far,h.halfs.drop,h.bucket,h.out,h.inp,h.done,h.over,?_,h.nums,?_⟩,hst⟩
    ·dsimp only
     split<;>simp only [bP,List.length_append,List.length_set,List.length_singleton]<;>omega
    dsimp only
    split
    ·rename_i h0
     obtain⟨n,e1,hn,k1,k2,k3⟩:=ws h0
     rw [e1,Int.toNat_natCast]
     refine (h.subs.st4 hn).app hsu fun y hy=>?_
     rw [gW hn] at hy
     obtain⟨j,hj,rfl⟩:=List.getElem_of_mem hy
     rw [List.getElem_set]
     split
     ·exact .inl rfl
     rename_i hnj
     rw [List.length_set] at hj
     have hq:=h.subs.pw
     rw [List.pairwise_iff_getElem] at hq
     have:e.subs[j].state=4\/¬ e.subs[j].road=e.subs[n].road:=by
      rcases Nat.lt_or_gt_of_ne hnj with hl|hl
      ·rcases hq n j hn hj hl with q|q|q
       ·exact absurd q k1
       ·exact .inl q
       exact .inr fun hc=>q hc.symm
      rcases hq j n hj hn hl with q|q|q
      ·exact .inl q
      ·exact absurd q k1
      exact .inr q
     rw [k2] at this
     exact this
    rename_i h0
    refine h.subs.app hsu fun y hy=>?_
    exact FN.1 (show aU e.subs (roadOf x) < 0 by omega) y hy
   split<;>exact⟨h,hst⟩
  exact⟨h,hst⟩
 ·unfold aE;dsimp only;split
  ·rename_i hk
   simp only [mu,Bool.and_eq_true,decide_eq_true_eq] at hk
   obtain⟨⟨⟨⟨k1,k2⟩,k3⟩,k4⟩,k5⟩:=hk
   obtain⟨n,e1,hn,_,_,_⟩:=ws k3
   rw [e1,Int.toNat_natCast,ke hn] at k4
   refine⟨⟨h.side,h.state,h.pol,h.own,h.far,h.halfs,h.bucket,h.out,h.inp,h.done,h.over,by dsimp only;rw [bP,List.length_set];exact h.subs8,h.nums,?_⟩,hst⟩
   dsimp only
   rw [e1,Int.toNat_natCast,gW hn]
   exact h.subs.set hn ((h.subs.el _ (List.getElem_mem hn)).st (by omega)) rfl fun h4=>by omega
  exact⟨h,hst⟩
 ·unfold bC;split
  ·rename_i hk
   simp only [lH,Bool.and_eq_true,Bool.not_eq_true',HI] at hk
   exact⟨⟨h.side,h.state,h.pol,h.own,h.far.put,h.halfs,h.bucket,h.out,h.inp,h.done,h.over.put hk.1.1.2,h.subs8,h.nums,h.subs⟩,hst⟩
  exact⟨h,hst⟩
 ·unfold bD;dsimp only;split
  ·rename_i hk
   simp only [hZ,Bool.and_eq_true,decide_eq_true_eq] at hk
   obtain⟨n,e1,hn,_⟩:=EW hk.1.2
   have hp:∀ (i:Nat) (h1:i < (e.own.set (aG e.own x.id).toNat { kU e.own (aG e.own x.id).toNat with told:=true }).length) (h2:i < e.own.length),
     (e.own.set (aG e.own x.id).toNat { kU e.own (aG e.own x.id).toNat with told:=true })[i].id=e.own[i].id/\(e.own.set (aG e.own x.id).toNat { kU e.own (aG e.own x.id).toNat with told:=true })[i].addr=e.own[i].addr:=by
    intro i h1 h2
    rw [List.getElem_set]
    split
    ·rename_i he
     rw [e1,Int.toNat_natCast] at he
     subst he
     rw [e1,Int.toNat_natCast,hV hn]
     exact⟨rfl,rfl⟩
    exact⟨rfl,rfl⟩
   refine⟨⟨h.side,h.state,h.pol,h.own.pt (by simp) hp,h.far,h.halfs,h.bucket,h.out,h.inp,h.done.pt fun a ha=>?_,h.over,h.subs8,h.nums,h.subs⟩,hst⟩
   obtain⟨j,hj,rfl⟩:=List.getElem_of_mem ha
   have hj':=hj
   rw [List.length_set] at hj'
   exact⟨e.own[j],List.getElem_mem hj',(hp j hj hj').1.symm⟩
  exact⟨h,hst⟩
 ·unfold bE;dsimp only;split
  ·rename_i hk
   simp only [mJ,Bool.and_eq_true,decide_eq_true_eq] at hk
   obtain⟨n,e1,hn,e2⟩:=EW hk.2
   refine⟨⟨h.side,h.state,h.pol,h.own,h.far.drop,h.halfs,h.bucket,h.out,h.inp,h.done,h.over.drop h.far ⟨_,List.getElem_mem hn,e2⟩,by dsimp only;rw [List.length_map];exact h.subs8,h.nums,h.subs.map fun s hs=>?_⟩,hst⟩
   rw [jP];split
   ·exact⟨(h.subs.el s hs).st (by omega),rfl,fun _=>rfl⟩
   exact⟨h.subs.el s hs,rfl,fun h=>h⟩
  exact⟨h,hst⟩
 ·unfold bF;split
  ·refine⟨⟨h.side,h.state,h.pol,h.own,h.far,h.halfs,h.bucket,h.out,?_,h.done,h.over,h.subs8,h.nums,h.subs⟩,hst⟩
   dsimp only
   rw [rX]
   rcases rW e.inp x.pos x.text with hp|hp
   ·rw [hp];exact h.inp
   exact hp
  exact⟨h,hst⟩
 ·unfold bA;dsimp only;split
  ·rename_i hk
   obtain⟨n,_,_,hn,_,_,_,hl⟩:=Hh hk
   obtain⟨_,_,_,_,_,_,_,_,hp⟩:=v2 hl
   exact⟨⟨h.side,h.state,h.pol,h.own,h.far,h.halfs,h.bucket,HY h.out hp,h.inp,h.done,h.over,h.subs8,h.nums,h.subs⟩,hst⟩
  exact⟨h,hst⟩
 unfold bf;dsimp only;split
 ·rename_i hk
  obtain⟨n,_,e1,hn,_⟩:=Hh hk
  refine⟨⟨h.side,h.state,h.pol,h.own,h.far,h.halfs,h.bucket,h.out,h.inp,h.done,h.over,by dsimp only;rw [bP,List.length_set];exact h.subs8,h.nums,?_⟩,hst⟩
  dsimp only
  rw [e1,Int.toNat_natCast]
  exact h.subs.st4 hn
 exact⟨h,hst⟩
theorem Gt {o:OutD} (F:FineO o):((cy o).length:Int)<=o.base+(o.text.length:Int) - o.sent:=by
 have:=F.sent
 simp only [cy,List.length_take,List.length_drop]
 omega
theorem GN {o:OutD} (h:outOk o=true):outOk (qg o)=true:=by
 rw [qg];split
 ·have F:=gp h
  have hl:=Gt F
  obtain⟨h1,h2,h3,h4,h5⟩:=F
  rw [u3]
  exact⟨h1,h2,h3,by dsimp only;omega⟩
 exact h
theorem HJ {n:Int} (h:N9 n):N9 (i8 n):=by
 simp only [N9] at h⊢
 rw [i8];split<;>omega
theorem F8 {e:EndD} (h:OkE e):OkE (cL e).1:=by
 unfold cL;split
 ·exact⟨h.side,h.state,h.pol,h.own,h.far,h.halfs,h.bucket,GN h.out,h.inp,h.done,h.over,h.subs8,⟨h.nums.1,h.nums.2.1,h.nums.2.2.1,h.nums.2.2.2.1,HJ h.nums.2.2.2.2⟩,h.subs⟩
 exact h
theorem v3 {e:EndD}:(cL e).1.state=e.state:=by unfold cL;split<;>rfl
theorem Fs:∀ {k:Nat} {e:EndD},OkE e->OkE (cu k e).1/\(cu k e).1.state=e.state
 |0,e,h=>⟨h,rfl⟩
 |k+1,e,h=>by
  obtain⟨h1,h2⟩:=Fs (k:=k) (F8 h)
  exact⟨h1,h2.trans v3⟩
theorem Hj {o:OutD} {t:List UInt8} (h:outOk o=true):outOk (eL o t).1=true:=by
 rw [eL];split
 ·obtain⟨h1,h2,h3,h4,h5⟩:=gp h
  rw [u3]
  refine⟨h1,h2,?_,?_⟩
  ·simp only [List.length_append,List.length_take,i9];omega
  simp only [List.length_append,List.length_take,i9];omega
 exact h
theorem Ft {e:EndD} {t:List UInt8} (h:OkE e):OkE (cc e t).1/\(cc e t).1.state=e.state:=by
 unfold cc;split
 ·exact⟨⟨h.side,h.state,h.pol,h.own,h.far,h.halfs,h.bucket,Hj h.out,h.inp,h.done,h.over,h.subs8,h.nums,h.subs⟩,rfl⟩
 exact⟨h,rfl⟩
theorem HZ {p:PiecesD} {m:Int} (h:piecesOk p=true) (hs:SmallP p):piecesOk (bK p m).1=true:=by
 rw [bK];split
 ·rename_i hk
  simp only [sg,Bool.and_eq_true,decide_eq_true_eq] at hk
  have F:=dt h hs
  have hr:=F.ready
  have hr0:=F.r0
  have hn:=F.next
  have hN:w9 p m<=p.ready.length:=Nat.min_le_right _ _
  simp only [piecesOk,gA,Bool.and_eq_true,decide_eq_true_eq] at h⊢
  obtain⟨⟨⟨⟨a1,a2⟩,a3⟩,a4⟩,a5⟩:=h
  have hle:=vy (M:=200) fun x hx=>(F.texts x hx).1
  have hm:p.list.length*200<=20*200:=Nat.mul_le_mul_right _ F.list
  refine⟨⟨⟨⟨by omega,by omega⟩,a3⟩,?_⟩,?_⟩
  ·rw [mt,mM (by omega) (by omega)] at a4
   show fD ((p.ready.drop (w9 p m)).length:Int) p.list<=200
   rw [mM (by omega) (by rw [List.length_drop];omega),List.length_drop]
   omega
  have e:nextOf ⟨p.read+(w9 p m:Int),p.ready.drop (w9 p m),p.list⟩=nextOf p:=by
   rw [hn,nextOf,ym (by simp only [List.length_drop];omega)]
   simp only [List.length_drop]
   omega
  rw [e];exact a5
 exact h
theorem HK {e:EndD} {m:Int} (h:OkE e) (hs:SmallP e.inp):OkE (bi e m).1/\(bi e m).1.state=e.state:=by
 unfold bi;split
 ·exact⟨⟨h.side,h.state,h.pol,h.own,h.far,h.halfs,h.bucket,h.out,HZ h.inp hs,h.done,h.over,h.subs8,h.nums,h.subs⟩,rfl⟩
 exact⟨h,rfl⟩
theorem GZ {o:OutD} (h:outOk o=true):outOk (fi o)=true:=by
 rw [fi,if_pos h]
 obtain⟨h1,h2,h3,h4,h5⟩:=gp h
 rw [u3]
 exact⟨h1,h2,h3,by dsimp only;omega⟩
theorem Fu {e:EndD} {l:List LetterD} (h:OkE e):OkE (bQ e l).1/\(bQ e l).1.state=e.state:=Fs h
theorem H0 {e:EndD} (h:OkE e):OkE (cQ e).1/\(cQ e).1.state=e.state:=by
 unfold cQ;split
 ·rename_i hk
  simp only [AT,Bool.and_eq_true,decide_eq_true_eq,List.all_eq_true] at hk
  have h0:∀ s:List SubD,s.length<=8->SuOk s->OkE { eR e with subs:=s }:=fun s h8 hs=>
   ⟨h.side,h.state,h.pol,h.own,h.far,h.halfs.young,FO h.bucket,GZ h.out,h.inp,h.done,h.over,h8,⟨h.nums.1,h.nums.2.1,h.nums.2.2.1,by have:=h.nums.2.2.2.1;simp only [N9,eR] at this⊢;omega,h.nums.2.2.2.2⟩,hs⟩
  split
  ·refine Fu (h0 _ (by rw [List.length_map];exact h.subs8) (h.subs.map fun s hs=>?_))
   have hel:=h.subs.el s hs
   have ht:=hk.2 s hs
   have hN:N9 (s.tries+1):=by have:=hel.2.2.2.2.2.2;simp only [N9] at this⊢;omega
   rw [cW];split
   ·rename_i hc
    split
    ·exact⟨⟨by simp,hel.2.1,hel.2.2.1,hel.2.2.2.1,hel.2.2.2.2.1,hel.2.2.2.2.2.1,hN⟩,rfl,fun _=>rfl⟩
    exact⟨⟨hel.1,hel.2.1,hel.2.2.1,hel.2.2.2.1,hel.2.2.2.2.1,hel.2.2.2.2.2.1,hN⟩,rfl,fun h=>h⟩
   exact⟨hel,rfl,fun h=>h⟩
  exact Fu (h0 e.subs h.subs8 h.subs)
 exact⟨h,rfl⟩
theorem G0 {e:EndD} {r:RoadD} {b:Bool} (h:OkE e):OkE (dz e r b).1/\(dz e r b).1.state=e.state:=by
 unfold dz;split
 ·rename_i hk
  simp only [w_,Bool.and_eq_true,decide_eq_true_eq,vP,u0] at hk
  obtain⟨⟨⟨⟨⟨⟨⟨k1,k2⟩,k3⟩,k4⟩,k5⟩,k6⟩,k7⟩,k8⟩:=hk
  refine⟨⟨h.side,h.state,h.pol,h.own,h.far,h.halfs,h.bucket,h.out,h.inp,h.done,h.over,by simp only [List.length_append,List.length_singleton];omega,⟨h.nums.1,h.nums.2.1,⟨by dsimp only;omega,by dsimp only;omega⟩,h.nums.2.2.2⟩,?_⟩,rfl⟩
  refine h.subs.app ⟨by simp [eN],k3,?_,?_,?_,?_,?_⟩ fun x hx=>FN.1 k4 x hx
  all_goals simp only [eN,N9];omega
 exact⟨h,rfl⟩
theorem Gu {far:List AddrD}:∀ {l:List RoadD} {e:EndD},OkE e->OkE (dS far e l).1/\(dS far e l).1.state=e.state
 |[],e,h=>⟨h,rfl⟩
 |r::l,e,h=>by
  obtain⟨h1,h2⟩:=G0 (r:=r) (b:=aZ far r.far) h
  obtain⟨h3,h4⟩:=Gu (far:=far) (l:=l) h1
  exact⟨h3,h4.trans h2⟩
theorem G1 {e:EndD} {a:ActD} (h:OkE e) (hs:SmallP e.inp):OkE (ie e a).1/\(ie e a).1.state=e.state:=by
 unfold ie
 split
 ·obtain⟨h1,h2⟩:=Ft (t:=a.text) h
  obtain⟨h3,h4⟩:=Fs (k:=3) h1
  exact⟨h3,h4.trans h2⟩
 split
 ·exact HK h hs
 split
 ·exact H0 h
 split
 ·unfold bb;split
  ·exact Gu h
  exact⟨h,rfl⟩
 split
 ·unfold az;split
  ·rename_i hk
   simp only [AR,Bool.and_eq_true,Bool.not_eq_true',HI] at hk
   exact⟨⟨h.side,h.state,h.pol,h.own.put,h.far,h.halfs,h.bucket,h.out,h.inp,h.done.put hk.2,h.over,h.subs8,h.nums,h.subs⟩,rfl⟩
  exact⟨h,rfl⟩
 split
 ·unfold iA;split
  ·rename_i hk
   simp only [Du,Bool.and_eq_true,decide_eq_true_eq] at hk
   obtain⟨n,e1,hn,e2⟩:=EW hk.2
   refine⟨⟨h.side,h.state,h.pol,h.own.drop,h.far,h.halfs,h.bucket,h.out,h.inp,h.done.drop h.own ⟨_,List.getElem_mem hn,e2⟩,h.over,by dsimp only;rw [ic,List.length_map];exact h.subs8,h.nums,h.subs.map fun s hs=>?_⟩,rfl⟩
   rw [Dt];split
   ·exact⟨(h.subs.el s hs).st (by omega),rfl,fun _=>rfl⟩
   exact⟨h.subs.el s hs,rfl,fun h=>h⟩
  exact⟨h,rfl⟩
 unfold ks;split
 ·rename_i hk
  simp only [EE,Bool.and_eq_true,decide_eq_true_eq,vP] at hk
  obtain⟨n,hn⟩:=Int.eq_ofNat_of_zero_le hk.1.2.1
  refine⟨⟨h.side,h.state,h.pol,h.own,h.far,h.halfs,h.bucket,h.out,h.inp,h.done,h.over,by dsimp only;rw [bP,List.length_set];exact h.subs8,h.nums,?_⟩,rfl⟩
  dsimp only
  rw [hn,Int.toNat_natCast]
  exact h.subs.st4 (by omega)
 exact⟨h,rfl⟩
structure Inv (w:WorldD):Prop where
 c:Core w
 bag:∀ x∈w.bag,LetI w x
 past:∀ x∈w.past,LetI w x
theorem Gv {l:List SubD} (h:l.Pairwise fun s t=>¬ s.take=t.take) {s t:SubD} (hs:s∈l) (ht:t∈l) (e:s.take=t.take):s=t:=by
 obtain⟨i,hi,rfl⟩:=List.getElem_of_mem hs
 obtain⟨j,hj,rfl⟩:=List.getElem_of_mem ht
 rw [List.pairwise_iff_getElem] at h
 rcases Nat.lt_trichotomy i j with hl|hl|hl
 ·exact absurd e (h i j hi hj hl)
 ·subst hl;rfl
 exact absurd e.symm (h j i hj hi hl)
theorem Fv {l:List Int} {n m:Int} (h:m∈cP l n):m=n/\0 < n\/m∈l:=by
 rw [cP] at h;split at h
 ·rename_i hc
  rcases List.mem_append.1 h with h|h
  ·exact .inr h
  exact .inl ⟨List.mem_singleton.1 h,hc.1⟩
 exact .inr h
theorem sp {l:List Int} {n m:Int} (h:m∈l):m∈cP l n:=by
 rw [cP];split
 ·exact List.mem_append_left _ h
 exact h
theorem Hk {w:WorldD} {x:LetterD} (h:sideAt x.to=0):LetI w x:=by
 constructor<;>(intro h1;omega)
theorem Post.let {w:WorldD} {x:LetterD} (h:Post w x):LetI w x:=h.some.elim Hk id
theorem E8 {w w':WorldD} (ha:w'.a=w.a) (hb:w'.b=w.b) (hn:∀ n∈w.nums,n∈w'.nums) (h1:w'.wroteA=w.wroteA) (h2:w'.wroteB=w.wroteB):Le w w':=by
 refine⟨by rw [ha],by rw [hb],hn,fun s hs=>⟨s,by rw [ha];exact hs,SubTo.refl s⟩,fun t ht=>⟨t,by rw [hb];exact ht,rfl⟩,by rw [hb];exact Int.le_refl _,fun h hh=>.inr ⟨h,by rw [hb] at hh;exact hh,rfl,rfl,rfl,rfl⟩,fun i d h=>by rw [ha];exact h,fun i d h=>by rw [hb];exact h,⟨[],by rw [h1,List.append_nil]⟩,⟨[],by rw [h2,List.append_nil]⟩⟩
theorem GO {k:KnownD} {t u:TagD} (h:u∈(ez k t).tags):u=t\/u∈k.tags:=by
 rw [ez] at h;split at h
 ·rcases List.mem_append.1 h with h|h
  ·exact .inr h
  exact .inl (List.mem_singleton.1 h)
 exact .inr h
theorem Fw {w:WorldD} {side:Int} {x:LetterD} (h:Core w):Core (mU side w x):=⟨h.oka,h.okb,h.sta,h.stb,h.sia,h.sib,h.ka,h.kb,h.kk,h.pa,h.pb,h.keys,h.tags,h.da,h.db,h.nn,h.sa,h.sad,h.sb,h.ha,h.hb,h.hbd,h.oa,h.ob,h.fa,h.fb,h.oia,h.oib,h.iia,h.iib⟩
theorem Gw {w:WorldD} {l:List LetterD} (h:Core w):Core { w with bag:=l }:=⟨h.oka,h.okb,h.sta,h.stb,h.sia,h.sib,h.ka,h.kb,h.kk,h.pa,h.pb,h.keys,h.tags,h.da,h.db,h.nn,h.sa,h.sad,h.sb,h.ha,h.hb,h.hbd,h.oa,h.ob,h.fa,h.fb,h.oia,h.oib,h.iia,h.iib⟩
theorem GP {w:WorldD} {x:LetterD} (h:Core w) (F:Free w x):Core (vH w x):=by
 have hn:∀ n∈(vH w x).nums,n=x.nonce\/n=x.give\/n∈w.nums:=by
  intro n hm
  rcases Fv hm with⟨_,h0⟩|hm
  ·rw [F.sgn] at h0;omega
  rcases Fv hm with⟨e,_⟩|hm
  ·exact .inr (.inl e)
  rcases Fv hm with⟨e,_⟩|hm
  ·exact .inl e
  exact .inr (.inr hm)
 have ho:∀ n∈w.nums,n∈(vH w x).nums:=fun n hm=>sp (sp (sp hm))
 refine⟨h.oka,h.okb,h.sta,h.stb,h.sia,h.sib,h.ka,h.kb,h.kk,h.pa,h.pb,?_,?_,h.da,h.db,?_,?_,h.sad,?_,?_,?_,h.hbd,h.oa,h.ob,h.fa,h.fb,h.oia,h.oib,h.iia,h.iib⟩
 ·rw [vH,i4];exact h.keys
 ·intro u hu
  rcases GO hu with rfl|hu
  ·exact⟨F.kind,F.th.mono ho⟩
  exact⟨(h.tags u hu).1,(h.tags u hu).2.mono ho⟩
 ·intro n hm
  rcases hn n hm with e|e|e
  ·exact F.nn n (.inl e)
  ·exact F.nn n (.inr e)
  exact h.nn n e
 ·intro s hs
  have S:=h.sa s hs
  obtain⟨f1,f2,f3⟩:=F.sa s hs
  refine⟨S.t4,fun hc=>?_,?_,S.own,S.far,S.th,S.on,S.ask⟩
  ·rcases hn _ hc with e|e|e
   ·exact f2 e
   ·exact f1 e
   exact S.tn e
  rcases S.mine with m|⟨m1,m2⟩
  ·exact .inl m
  rcases f3 with f3|⟨f3,f4⟩
  ·exact .inl f3
  refine .inr ⟨m1,fun hc=>?_⟩
  rcases hn _ hc with e|e|e
  ·exact f3 e
  ·exact f4 e
  exact m2 e
 ·intro t ht
  have S:=h.sb t ht
  obtain⟨f1,f2⟩:=F.sb t ht
  refine⟨S.t4,fun hc=>?_,S.st,S.like⟩
  rcases hn _ hc with e|e|e
  ·exact f2 e
  ·exact f1 e
  exact S.tn e
 ·intro k hk
  have S:=h.ha k hk
  exact⟨S.m4,S.sep,S.th.mono ho⟩
 intro k hk
 have S:=h.hb k hk
 refine⟨S.m4,S.sep,?_⟩
 rcases S.th with q|⟨q1,q2⟩
 ·exact .inl (q.mono ho)
 by_cases hf:k.take=x.give\/k.take=x.nonce
 ·exact .inl ((F.hb k hk hf).mono ho)
 refine .inr ⟨fun hc=>?_,q2⟩
 rcases hn _ hc with e|e|e
 ·exact hf (.inr e)
 ·exact hf (.inl e)
 exact q1 e
theorem Hl {w:WorldD} {side:Int} {x:LetterD} (h:Inv w) (P:Post w x):Inv (cn side w x)/\Le w (cn side w x)/\(cn side w x).a=w.a/\(cn side w x).b=w.b:=by
 obtain⟨e1,e2,e3,e4,_,_⟩:=gm (side:=side) (w:=w) (x:=x)
 have hpast:∀ y∈mS w.past x,y=x\/y∈w.past:=by
  intro y hy
  rw [mS] at hy;split at hy
  ·rcases List.mem_append.1 hy with hy|hy
   ·exact .inr hy
   exact .inl (List.mem_singleton.1 hy)
  exact .inr hy
 have hbag:∀ y∈ut w.bag x,y=x\/y∈w.bag:=by
  intro y hy
  rw [ut] at hy;split at hy
  ·rcases List.mem_append.1 hy with hy|hy
   ·exact .inr hy
   exact .inl (List.mem_singleton.1 hy)
  exact .inr hy
 have hL:=P.let
 by_cases h0:sideAt x.to=0
 ·have hl:Le w (cn side w x):=E8 e1 e2 (by rw [cn,if_pos h0];exact fun n hm=>sp (sp (sp hm))) e3 e4
  refine⟨?_,hl,e1,e2⟩
  have hc:=GP (w:=mU side w x) (x:=x) (Fw h.c) ⟨(P.none h0).kind,(P.none h0).th,(P.none h0).sgn,(P.none h0).sa,(P.none h0).sb,(P.none h0).hb,(P.none h0).pos,(P.none h0).nn⟩
  refine⟨by rw [cn,if_pos h0];exact hc,fun y hy=>?_,fun y hy=>?_⟩
  ·rw [cn,if_pos h0] at hy
   exact (h.bag y hy).mono hl
  rw [cn,if_pos h0] at hy
  rcases hpast y hy with rfl|hy
  ·exact hL.mono hl
  exact (h.past y hy).mono hl
 have hl:Le w (cn side w x):=E8 e1 e2 (by rw [cn,if_neg h0];exact fun n hm=>hm) e3 e4
 refine⟨?_,hl,e1,e2⟩
 refine⟨by rw [cn,if_neg h0];exact Gw (Fw h.c),fun y hy=>?_,fun y hy=>?_⟩
 ·rw [cn,if_neg h0] at hy
  rcases hbag y hy with rfl|hy
  ·exact hL.mono hl
  exact (h.bag y hy).mono hl
 rw [cn,if_neg h0] at hy
 rcases hpast y hy with rfl|hy
 ·exact hL.mono hl
 exact (h.past y hy).mono hl
theorem FP {side:Int}:∀ {l:List LetterD} {w:WorldD},Inv w->(∀ x∈l,Post w x)->Inv (an side w l)
 |[],w,h,_=>h
 |x::l,w,h,P=>by
  obtain⟨h1,h2,h3,h4⟩:=Hl (side:=side) h (P x (by simp))
  exact FP (l:=l) h1 fun y hy=>(P y (by simp [hy])).mono h2 h3 h4
theorem PutA.core {w w':WorldD} (P:PutA w w') (C:Core w):Core w':=by
 refine⟨P.ok,by rw [P.hb];exact C.okb,P.st,by rw [P.hb];exact C.stb,P.sd,by rw [P.hb];exact C.sib,by rw [P.ky];exact C.ka,by rw [P.hb];exact C.kb,by rw [P.ky,P.hb];exact C.kk,by rw [P.pe,P.hb];exact C.pa,by rw [P.hb,P.ky];exact C.pb,by rw [P.known];exact C.keys,by rw [P.known,P.nums];exact C.tags,⟨P.dr.1,by have:=C.da.2;have:=P.dr.2;omega⟩,by rw [P.hb];exact C.db,?_,by rw [P.nums,P.hb];exact P.sa,P.sad,?_,by rw [P.nums];exact P.ha,?_,by rw [P.hb];exact C.hbd,P.oa,by rw [P.hb];exact C.ob,by rw [P.hb];exact P.fa,?_,P.oia,by rw [P.wroteB,P.hb];exact C.oib,by rw [P.wroteB];exact P.iia,?_⟩
 ·rw [P.nums,P.hb]
  intro n hn
  have:=C.nn n hn
  have hd:=P.dr.2
  exact⟨fun h=>by have:=this.1 h;omega,this.2⟩
 ·rw [P.nums,P.hb]
  intro t ht
  have S:=C.sb t ht
  obtain⟨s,h1,h2,h3,h4,h5⟩:=S.like
  obtain⟨s',g1,g2⟩:=P.evo s h1
  obtain⟨r1,r2,r3⟩:=g2.rest h2
  exact⟨S.t4,S.tn,S.st,s',g1,r1,by rw [g2.road];exact h3,by rw [g2.take];exact h4,by rw [r3];exact h5⟩
 ·rw [P.nums,P.hb]
  intro h hh
  have S:=C.hb h hh
  refine⟨S.m4,S.sep,S.th.imp id fun⟨q1,s,h1,h2,h3,h4,h5⟩=>?_⟩
  obtain⟨s',g1,g2⟩:=P.evo s h1
  exact⟨q1,s',g1,by rw [g2.mine];exact h2,by rw [g2.mine];exact h3,by rw [g2.take];exact h4,by rw [g2.road];exact h5⟩
 ·rw [P.hb]
  exact fun f hf=>⟨(C.fb f hf).1,P.tl _ _ (C.fb f hf).2⟩
 rw [P.readB,P.hb]
 obtain⟨t,ht⟩:=P.wroteA
 rw [ht];exact C.iib.app t
theorem PutB.core {w w':WorldD} (P:PutB w w') (C:Core w):Core w':=by
 refine⟨by rw [P.ha];exact C.oka,P.ok,by rw [P.ha];exact C.sta,P.st,by rw [P.ha];exact C.sia,P.sd,by rw [P.ha];exact C.ka,by rw [P.ky];exact C.kb,by rw [P.ky,P.ha];exact C.kk,by rw [P.ha,P.ky];exact C.pa,by rw [P.pe,P.ha];exact C.pb,by rw [P.known];exact C.keys,by rw [P.known,P.nums];exact C.tags,by rw [P.ha];exact C.da,⟨P.dr.1,by have:=C.db.2;have:=P.dr.2;omega⟩,?_,?_,by rw [P.ha];exact C.sad,by rw [P.nums,P.ha];exact P.sb,by rw [P.nums,P.ha];exact C.ha,by rw [P.nums,P.ha];exact P.hb,P.hbd,by rw [P.ha];exact C.oa,P.ob,?_,by rw [P.ha];exact P.fb,by rw [P.wroteA,P.ha];exact C.oia,P.oib,?_,by rw [P.wroteA];exact P.iib⟩
 ·rw [P.nums,P.ha]
  intro n hn
  have:=C.nn n hn
  have hd:=P.dr.2
  exact⟨this.1,fun h=>by have:=this.2 h;omega⟩
 ·rw [P.nums,P.ha]
  intro s hs
  have S:=C.sa s hs
  refine⟨S.t4,S.tn,S.mine,S.own,S.far,⟨Int.lt_of_lt_of_le S.th.1 P.dr.2,fun h hh hm=>?_⟩,fun h3=>?_,S.ask⟩
  ·rcases P.hev h hh with g|⟨k,g1,g2,g3,g4,g5⟩
   ·have:=S.th.1;omega
   obtain⟨q1,q2,q3⟩:=S.th.2 k g1 (by omega)
   exact⟨by rw [<-g3];exact q1,by rw [<-g4];exact q2,by rw [<-g5];exact q3⟩
  obtain⟨t,g1,g2,g3,g4⟩:=S.on h3
  obtain⟨t',k1,k2,k3,k4⟩:=P.evo t g1
  exact⟨t',k1,by rw [k2];exact g2,by rw [k3];exact g3,by rw [k4];exact g4⟩
 ·rw [P.ha]
  exact fun f hf=>⟨(C.fa f hf).1,P.tl _ _ (C.fa f hf).2⟩
 rw [P.readA,P.ha]
 obtain⟨t,ht⟩:=P.wroteB
 rw [ht];exact C.iia.app t
theorem SubsKeep.st4 (l:List SubD) (n:Nat):SubsKeep l (bP l n 4):=by
 refine⟨by simp [bP],fun i h1 h2=>?_⟩
 simp only [bP,List.getElem_set]
 split
 ·rename_i e;subst e
  rw [ke h2]
  exact⟨rfl,rfl,rfl,rfl,rfl,.inr rfl⟩
 exact SubKeep.refl _
theorem F9 (W:List UInt8) (n k m:Nat):A3 W n k++A3 W (n+k) m=A3 W n (k+m):=by
 rw [A3,A3,A3,List.take_add,List.drop_drop]
theorem HL (W:List UInt8) (n k j:Nat):(A3 W n k).take j=A3 W n (min j k):=by rw [A3,A3,List.take_take]
theorem Gx {W:List UInt8} {a b:PieceD} (ha:Slice W a.pos a.text) (hb:Slice W b.pos b.text) (h1:b.pos<=a.pos+(a.text.length:Int)) (h2:a.pos<=b.pos+(b.text.length:Int)):Slice W (fh a b).pos (fh a b).text:=by
 obtain⟨n,k,e1,e2,e3,e4⟩:=ha.nat
 obtain⟨m,j,f1,f2,f3,f4⟩:=hb.nat
 rw [e3,e1,f1] at h1
 rw [f3,e1,f1] at h2
 rw [fh];split
 ·rename_i hlt
  rw [e1,f1] at hlt
  dsimp only
  rw [e1,f1,e2,f2,A4 e4,show ((n:Int) - (m:Int)).toNat=n - m by omega,HL,zQ,show min (n - m) j=n - m by omega]
  have g:A3 W m (n - m)++A3 W n k++A3 W (m+(n - m+k)) (j - (n - m+k))=A3 W m (n - m+k+(j - (n - m+k))):=by
   have h3:=F9 W m (n - m) k
   rw [show m+(n - m)=n by omega] at h3
   rw [h3,F9]
  rw [g]
  exact xH (by omega)
 rename_i hge
 rw [e1,f1] at hge
 dsimp only
 rw [e1,f1,e2,f2,A4 e4,show ((n:Int)+(k:Int) - (m:Int)).toNat=n+k - m by omega,zQ,show m+(n+k - m)=n+k by omega,F9]
 exact xH (by omega)
structure PpW (W:List UInt8) (g:PpS):Prop where
 own:Slice W g.own.pos g.own.text
 acc:∀ z∈g.acc,Slice W z.pos z.text
theorem w2 {α:Type} {l:List α} {x:α} {P:α->Prop} (hl:∀ z∈l,P z) (hx:P x):∀ z∈l++[x],P z:=fun z hz=>by
 rcases List.mem_append.1 hz with hz|hz
 ·exact hl z hz
 rw [List.mem_singleton.1 hz];exact hx
theorem HM {W:List UInt8} {g:PpS} {x:PieceD} (h:PpW W g) (hx:Slice W x.pos x.text):PpW W (gh g x):=by
 rw [gh];split
 ·exact⟨h.own,w2 h.acc hx⟩
 split
 ·refine⟨h.own,w2 ?_ hx⟩
  split
  ·exact h.acc
  exact w2 h.acc h.own
 exact⟨Gx hx h.own (by omega) (by omega),h.acc⟩
theorem HN {W:List UInt8}:∀ {l:List PieceD} {g:PpS},PpW W g->(∀ x∈l,Slice W x.pos x.text)->PpW W (mO g l)
 |[],g,h,_=>h
 |x::l,g,h,hl=>HN (l:=l) (HM h (hl x (by simp))) fun y hy=>hl y (by simp [hy])
theorem H1 {W:List UInt8} {g:PpS} (h:PpW W g):∀ z∈iN g,Slice W z.pos z.text:=by
 rw [iN];split
 ·exact h.acc
 exact w2 h.acc h.own
theorem G2 {W R:List UInt8} {p:PiecesD} {n:Int} {t:List UInt8} (h:InI W R p) (F:FineP p) (ht:Slice W n t):InI W R (kW p n t):=by
 have hA:=H1 (HN (l:=p.list) (g:=⟨⟨n,t⟩,false,[]⟩) ⟨ht,fun z hz=>by simp at hz⟩ h.list)
 rw [kW]
 generalize iN (mO ⟨⟨n,t⟩,false,[]⟩ p.list)=l at hA
 rw [iO];split
 ·rw [kV];split
  ·rename_i he
   cases l with
   |nil=>
    obtain⟨T,hT⟩:=h.pre
    have e:(default:PieceD).text=[]:=rfl
    exact⟨h.read,⟨T,by rw [List.headD_nil,e,List.append_nil];exact hT⟩,fun z hz=>by simp at hz⟩
   |cons y r=>
    rw [List.headD_cons] at he⊢
    refine⟨h.read,?_,fun z hz=>hA z (List.mem_cons_of_mem _ hz)⟩
    have hy:=hA y (by simp)
    rw [he,h.next F] at hy
    obtain⟨h1,h2⟩:=pn.1 hy
    obtain⟨T,hT⟩:=h.pre
    have hd:W.drop (R.length+p.ready.length)=T:=by
     rw [hT,List.drop_append_of_le_length (by simp)]
     simp
    refine⟨T.drop y.text.length,?_⟩
    rw [A3,hd] at h2
    dsimp only
    rw [hT]
    have:T=y.text++T.drop y.text.length:=by
     conv=>lhs;rw [<-List.take_append_drop y.text.length T]
     rw [<-h2]
    conv=>lhs;rw [this]
    simp
  exact⟨h.read,h.pre,hA⟩
 exact h
theorem Fx {W R:List UInt8} {p:PiecesD} {n:Int} {t:List UInt8} (h:InI W R p) (hs:SmallP p) (ht:Slice W n t):InI W R (bs p n t):=by
 rw [bs];split
 ·rename_i hk
  simp only [qa,Bool.and_eq_true] at hk
  have F:=dt hk.1.1 hs
  split
  ·exact h
  split
  ·have hd:=ht.drop (d:=(nextOf p - n).toNat) (by omega)
   rw [show n+((nextOf p - n).toNat:Int)=nextOf p by omega] at hd
   exact G2 h F hd
  exact G2 h F ht
 exact h
theorem HO {W R:List UInt8} {p:PiecesD} {m:Int} (h:InI W R p):InI W (R++(bK p m).2) (bK p m).1:=by
 rw [bK];split
 ·obtain⟨T,hT⟩:=h.pre
  refine⟨?_,⟨T,?_⟩,h.list⟩
  ·dsimp only
   rw [h.read]
   have:w9 p m<=p.ready.length:=Nat.min_le_right _ _
   simp only [List.length_append,List.length_take]
   omega
  dsimp only
  rw [hT]
  conv=>lhs;rw [<-List.take_append_drop (w9 p m) p.ready]
  simp
 dsimp only
 rw [List.append_nil];exact h
theorem Gy {W:List UInt8} {o:OutD} {t:List UInt8} (h:OutI W o):OutI (W++t.take (eL o t).2) (eL o t).1:=by
 rw [eL];split
 ·refine⟨⟨h.base.1,?_⟩,?_⟩
  ·have:=h.base.2
   have h2:=vJ o t
   simp only [List.length_append,List.length_take]
   omega
  dsimp only
  have:=h.base
  rw [List.drop_append_of_le_length (by omega),<-h.text]
 dsimp only
 rw [List.take_zero,List.append_nil];exact h
theorem HP {W:List UInt8} {o:OutD} {n:Int} (h:OutI W o):OutI W (nI o n):=by
 rw [nI];split
 ·rename_i hc
  obtain⟨h0,h1,h2⟩:=hc
  have F:=gp h0
  obtain⟨a1,a2,a3,a4⟩:=F
  rw [ym (by omega)] at h2
  have hb:=h.base
  refine⟨⟨by dsimp only;omega,?_⟩,?_⟩
  ·simp only [List.length_drop];omega
  dsimp only
  rw [h.text,List.drop_drop]
  congr 1
  omega
 exact h
theorem Gz {W:List UInt8} {o o':OutD} (h:OutI W o) (h1:o'.base=o.base) (h2:o'.text=o.text):OutI W o':=⟨by rw [h1,h2];exact h.base,by rw [h1,h2];exact h.text⟩
theorem FQ {W:List UInt8} {o:OutD} (h:OutI W o):OutI W (qg o):=by
 rw [qg];split
 ·exact Gz h rfl rfl
 exact h
theorem HQ {W:List UInt8} {o:OutD} (h:OutI W o):OutI W (fi o):=by
 rw [fi];split
 ·exact Gz h rfl rfl
 exact h
theorem w3 {W:List UInt8} {o:OutD} (h:OutI W o) (ho:outOk o=true):Slice W o.sent (cy o):=by
 obtain⟨a1,a2,a3,a4⟩:=gp ho
 obtain⟨n,hn⟩:=Int.eq_ofNat_of_zero_le (show 0<=o.sent by omega)
 have hb:=h.base
 have e:cy o=A3 W n (min 20 (W.length - n)):=by
  rw [cy,h.text,List.drop_drop,A3,show o.base.toNat+(o.sent - o.base).toNat=n by omega]
  rw [List.take_eq_take_iff]
  simp only [List.length_drop]
  omega
 rw [e,hn]
 exact xH (by omega)
def p3 (w:WorldD) (e:EndD):WorldD:={ w with a:=e }
structure Step (w w':WorldD) (l:List LetterD):Prop where
 c:Core w'
 le:Le w w'
 post:∀ x∈l,Post w' x
theorem PutA.step {w w':WorldD} {l:List LetterD} (P:PutA w w') (C:Core w) (h:Core w'->∀ x∈l,Post w' x):Step w w' l:=⟨P.core C,P.le,h (P.core C)⟩
theorem PutB.step {w w':WorldD} {l:List LetterD} (P:PutB w w') (C:Core w) (h:Core w'->∀ x∈l,Post w' x):Step w w' l:=⟨P.core C,P.le,h (P.core C)⟩
theorem em {w:WorldD}:∀ x∈([]:List LetterD),Post w x:=fun x hx=>by simp at hx
theorem en {w:WorldD} {y:LetterD} (h:Post w y):∀ x∈[y],Post w x:=fun x hx=>by rw [List.mem_singleton.1 hx];exact h
def E6 (k:Int):Prop:=k=1\/k=2\/k=3\/k=9\/k=10\/k=12\/k=13
theorem u4 {w:WorldD} {x:LetterD} (hk:E6 x.kind) (hs:¬ sideAt x.to=0):Post w x:=by
 simp only [E6] at hk
 refine⟨.inr ?_,fun h=>absurd h hs⟩
 constructor<;>(intro _ h;omega)
theorem G3 {w:WorldD} (C:Core w) {s:SubD} (hs:s∈w.a.subs):¬ Loose w.nums s.take:=fun h=>by
 have S:=C.sa s hs
 rcases h with h|h
 ·have:=S.t4;omega
 exact S.tn h
theorem G4 {w:WorldD} (C:Core w) {s:SubD} (hs:s∈w.a.subs) (h0:1000<=s.mine):¬ Loose w.nums s.mine:=fun h=>by
 have S:=C.sa s hs
 rcases h with h|h
 ·omega
 rcases S.mine with g|⟨_,g⟩
 ·omega
 exact g h
theorem H2 {w:WorldD} (C:Core w) {t:SubD} (ht:t∈w.b.subs):¬ Loose w.nums t.take:=fun h=>by
 have S:=C.sb t ht
 rcases h with h|h
 ·have:=S.t4;omega
 exact S.tn h
theorem Hm {w:WorldD} (C:Core w) {t:SubD} (ht:t∈w.b.subs):sideAt t.road.far=1/\sideAt t.road.own=2:=by
 obtain⟨s,h1,_,h3,_,_⟩:=(C.sb t ht).like
 have S:=C.sa s h1
 have g1:=S.own
 have g2:=S.far
 rw [h3] at g1 g2
 exact⟨g1,g2⟩
theorem In {w:WorldD} {x:LetterD} (C:Core w) (G:SmallP w.a.inp) (L:LetI w x) (hx:sideAt x.to=1):Step w (p3 w (bM w.a x).1) (bM w.a x).2:=by
 have ok:=GY (x:=x) C.oka C.sta
 have M0:=MildA.refl C
 have keep:Step w (p3 w w.a) []:=(M0.put C).step C fun _=>em
 have hk:=bM (e:=w.a) (x:=x)
 by_cases hc:cp w.a x=true
 case neg=>rw [ur (by simpa using hc)];exact keep
 by_cases k1:x.kind=1
 ·rw [y3 hc k1,ax,if_neg]
  ·exact keep
  simp only [f8,Bool.and_eq_true,decide_eq_true_eq];have:=C.sta;omega
 by_cases k2:x.kind=2
 ·rw [y4 hc k2,aS,if_neg]
  ·exact keep
  simp only [i2,Bool.and_eq_true,decide_eq_true_eq];have:=C.sta;omega
 by_cases k4:x.kind=4
 ·rw [y5 hc k4] at ok⊢
  have hL:=L.a4 hx k4
  -- what is answered for a half open road of ours
  have ans:∀ (w':WorldD) (h:HalfD),Core w'->h∈w'.a.halfs->w'.a.key=w.a.key->w'.b.key=w.b.key->w'.b.draw=w.b.draw->Post w' (kT w.a (roadOf x) h):=by
   intro w' h C' hh e1 e2 e3
   have H:=C'.ha h hh
   have hm:=H.m4
   refine⟨.inr ?_,fun h0=>⟨rfl,H.th,rfl,fun s hs=>?_,fun t ht=>?_,fun k hk hq=>?_,⟨by simp only [kT,aq];omega,by simp only [kT,aq];omega⟩,fun n hn=>?_⟩⟩
   ·constructor<;>(intro q1 q2;simp only [kT,aq,ah] at q2;try omega)
    intro m hm'
    simp only [kT,aq] at hm'
    have:=congrArg TagD.one hm'
    dsimp only at this
    exact absurd (this.symm.trans e1.symm) (fun hc=>C'.kk (by rw [<-hc]))
   ·have S:=C'.sa s hs
    have h1:=H.sep s hs
    have t4:=S.t4
    simp only [kT,aq]
    refine⟨by rw [hm.2.2.2] at h1⊢;exact h1,by omega,?_⟩
    rcases S.mine with g|⟨g,_⟩
    ·exact .inl g
    exact .inr ⟨by omega,by omega⟩
   ·have t4:=(C'.sb t ht).t4
    simp only [kT,aq]
    omega
   ·have m4:=(C'.hb k hk).m4
    simp only [kT,aq] at hq
    omega
   simp only [kT,aq] at hn
   constructor<;>intro _<;>omega
  unfold br at ok⊢
  split at ok
  case isFalse hk=>rw [if_neg hk];exact keep
  rename_i hk
  rw [if_pos hk]
  split at ok
  ·rename_i hs
   rw [if_pos hs]
   simp only [fg,Bool.and_eq_true,decide_eq_true_eq] at hs
   obtain⟨n,e1,hn,_⟩:=Fr hs.1.1
   have M:MildA w (p3 w { w.a with bucket:=(bI w.a.bucket).1,halfs:=w.a.halfs.set (a_ w.a.halfs (roadOf x)).toNat { wP w.a x with till:=w.a.now+6 } }):=by
    refine⟨rfl,rfl,rfl,rfl,rfl,⟨[],by simp [p3]⟩,ok,⟨rfl,rfl,rfl,rfl⟩,SubsKeep.refl _,fun h hh=>?_,C.oa,C.fa,fun _ _ h=>h,C.oia,C.iia⟩
    rcases List.mem_or_eq_of_mem_set hh with hh|hh
    ·exact⟨h,hh,HalfKeep.refl h⟩
    rw [hh,wP,e1,Int.toNat_natCast,g0 hn]
    exact⟨_,List.getElem_mem hn,rfl,rfl,rfl,rfl,rfl⟩
   refine (M.put C).step C fun C'=>en ?_
   have hj:wP w.a x=w.a.halfs[n]:=by rw [wP,e1,Int.toNat_natCast,g0 hn]
   have:=ans _ { wP w.a x with till:=w.a.now+6 } C' (by
    dsimp only [p3]
    rw [e1,Int.toNat_natCast]
    exact List.mem_set hn _) rfl rfl rfl
   exact this
  rename_i hs
  rw [if_neg hs]
  simp only [rF,Bool.and_eq_true,decide_eq_true_eq,vP] at hk
  have hd:=hk.1.1.2
  have da:=C.da
  have hput:∀ h∈(bJ w.a.halfs (aK w.a x)).1,h=aK w.a x\/h∈w.a.halfs:=by
   intro h hh
   rw [bJ] at hh;split at hh
   ·dsimp only at hh
    rw [cx] at hh;split at hh
    ·rcases List.mem_or_eq_of_mem_set hh with hh|hh
     ·exact .inr hh
     exact .inl hh
    rcases List.mem_append.1 hh with hh|hh
    ·exact .inr hh
    exact .inl (List.mem_singleton.1 hh)
   exact .inr hh
  have P:PutA w (p3 w { w.a with bucket:=(bI w.a.bucket).1,draw:=w.a.draw+4,halfs:=(bJ w.a.halfs (aK w.a x)).1 }):=by
   refine⟨rfl,rfl,rfl,rfl,rfl,⟨[],by simp [p3]⟩,ok.1,ok.2,C.sia,rfl,rfl,⟨by dsimp only [p3];omega,by dsimp only [p3];omega⟩,fun s hs=>⟨s,hs,SubTo.refl s⟩,fun s hs=>?_,C.sad,fun h hh=>?_,C.oa,C.fa,fun _ _ h=>h,C.oia,C.iia⟩
   ·have S:=C.sa s hs
    exact⟨by have:=S.t4;dsimp only [p3];omega,S.tn,S.mine,S.own,S.far,S.th,S.on,S.ask⟩
   rcases hput h hh with rfl|hh
   ·refine⟨⟨by simp only [aK];omega,by simp only [aK];omega,by simp only [aK,p3];omega,by simp only [aK]⟩,fun s hs=>?_,hL⟩
    have:=(C.sa s hs).t4
    simp only [aK]
    omega
   have S:=C.ha h hh
   exact⟨by have:=S.m4;dsimp only [p3];omega,S.sep,S.th⟩
  refine P.step C fun C'=>en ?_
  by_cases hin:aK w.a x∈(bJ w.a.halfs (aK w.a x)).1
  ·exact ans _ _ C' hin rfl rfl rfl
  -- a half open road that was not laid: its numbers are drawn all the same
  refine⟨.inr ?_,fun h0=>⟨rfl,hL,rfl,fun s hs=>?_,fun t ht=>?_,fun k hk hq=>?_,⟨by simp only [kT,aq,aK];omega,by simp only [kT,aq,aK];omega⟩,fun n hn=>?_⟩⟩
  ·constructor<;>(intro q1 q2;simp only [kT,aq,ah] at q2;try omega)
   intro m hm'
   simp only [kT,aq] at hm'
   have:=congrArg TagD.one hm'
   dsimp only [p3] at this
   exact absurd this C.kk
  ·have S:=C.sa s hs
   have t4:=S.t4
   simp only [kT,aq,aK]
   refine⟨by omega,by omega,?_⟩
   rcases S.mine with g|⟨g,_⟩
   ·exact .inl g
   exact .inr ⟨by omega,by omega⟩
  ·have t4:=(C.sb t ht).t4
   simp only [kT,aq,aK]
   omega
  ·have m4:=(C.hb k hk).m4
   simp only [kT,aq,aK] at hq
   omega
  simp only [kT,aq,aK] at hn
  dsimp only [p3]
  constructor<;>intro _<;>omega
 by_cases k5:x.kind=5
 ·rw [y6 hc k5] at ok⊢
  unfold ay at ok⊢
  split at ok
  case isFalse hk=>rw [if_neg hk];exact keep
  rename_i hk
  rw [if_pos hk]
  simp only [tO,Bool.and_eq_true,decide_eq_true_eq] at hk
  obtain⟨⟨⟨⟨⟨q1,q2⟩,q3⟩,q4⟩,q5⟩,q6⟩:=hk
  obtain⟨n,e1,hn,_,hrd,_⟩:=ws q4
  rw [e1,Int.toNat_natCast,ke hn] at q5 q6 ok⊢
  rw [C.pa] at q6
  have hs:=List.getElem_mem hn
  obtain⟨s,es⟩:∃ s,w.a.subs[n]=s:=⟨_,rfl⟩
  rw [es] at q5 q6 hs hrd ok⊢
  have S:=C.sa s hs
  have h1000:=S.ask (.inl q5)
  have hf:x.nonce < w.b.draw/\∀ h∈w.b.halfs,h.mine=x.nonce->h.theirs=s.mine/\h.take=x.give/\h.road=bk (roadOf x):=by
   rcases L.a5 hx k5 s.mine q6 with g|g
   ·exact absurd g (G4 C hs h1000)
   exact g
  have hat:∀ (i:Nat) (h1:i < (w.a.subs.set n (mD s x)).length) (h2:i < w.a.subs.length),SubTo w.a.subs[i] (w.a.subs.set n (mD s x))[i]/\((w.a.subs.set n (mD s x))[i]=mD s x\/(w.a.subs.set n (mD s x))[i]=w.a.subs[i]):=by
   intro i h1 h2
   rw [List.getElem_set]
   split
   ·rename_i e;subst e
    rw [es]
    exact⟨⟨rfl,rfl,rfl,fun h=>absurd q5 h⟩,.inl rfl⟩
   exact⟨SubTo.refl _,.inr rfl⟩
  have hmem:mD s x∈w.a.subs.set n (mD s x):=List.mem_set hn _
  have P:PutA w (p3 w { w.a with subs:=w.a.subs.set n (mD s x) }):=by
   refine⟨rfl,rfl,rfl,rfl,rfl,⟨[],by simp [p3]⟩,ok.1,ok.2,C.sia,rfl,rfl,⟨C.da.1,Int.le_refl _⟩,fun r hr=>?_,fun r hr=>?_,?_,fun h hh=>?_,C.oa,C.fa,fun _ _ h=>h,C.oia,C.iia⟩
   ·obtain⟨i,hi,rfl⟩:=List.getElem_of_mem hr
    exact⟨_,List.getElem_mem (by simpa [p3] using hi),(hat i (by simpa using hi) hi).1⟩
   ·rcases List.mem_or_eq_of_mem_set hr with hr|hr
    ·exact C.sa r hr
    rw [hr]
    refine⟨S.t4,S.tn,S.mine,S.own,S.far,⟨hf.1,fun h hh hm=>?_⟩,fun h3=>by simp [mD] at h3,fun _=>h1000⟩
    obtain⟨g1,g2,g3⟩:=hf.2 h hh hm
    rw [<-hrd] at g3
    exact⟨g1,g2,g3⟩
   ·have p:=C.sad
    rw [List.pairwise_iff_getElem] at p⊢
    intro i j hi hj hij
    dsimp only [p3] at hi hj⊢
    have hi':i < w.a.subs.length:=by simpa using hi
    have hj':j < w.a.subs.length:=by simpa using hj
    rw [(hat i hi hi').1.take,(hat j hj hj').1.take]
    exact p i j hi' hj' hij
   have H:=C.ha h hh
   refine⟨H.m4,fun r hr=>?_,H.th⟩
   rcases List.mem_or_eq_of_mem_set hr with hr|hr
   ·exact H.sep r hr
   rw [hr];exact H.sep s hs
  refine P.step C fun C'=>en ⟨.inr ?_,fun h0=>?_⟩
  ·constructor<;>(intro p1 p2;simp only [cb,aq,ah] at p2;try omega)
   ·intro m n hm
    have:sideAt s.road.far=1:=p1
    have:=S.far
    omega
   intro m n hm
   simp only [cb,aq,p3] at hm
   injection hm with _ _ _ hm hn'
   exact⟨mD s x,hmem,by simp [mD],h1000,hm.symm,hn'.symm,rfl⟩
  have:sideAt s.road.far=0:=h0
  have:=S.far
  omega
 by_cases k6:x.kind=6
 ·rw [y7 hc k6]
  have hno:=L.a6 hx k6
  have hA:rE w.a x=false:=by
   cases hj:rE w.a x with
   |false=>rfl
   |true=>
    simp only [rE,Bool.and_eq_true,decide_eq_true_eq] at hj
    rw [C.pa] at hj
    exact absurd hj.2 (hno _ _)
  have hB:BN w.a x=false:=by
   cases hj:BN w.a x with
   |false=>rfl
   |true=>
    simp only [BN,Bool.and_eq_true,decide_eq_true_eq] at hj
    rw [C.pa] at hj
    exact absurd hj.2 (hno _ _)
  by_cases hI:mE w.a x=true
  ·rw [Dp hI hA hB];exact keep
  rw [Ev (by simpa using hI)];exact keep
 by_cases k7:x.kind=7
 ·rw [y8 hc k7] at ok⊢
  unfold aE at ok⊢
  dsimp only at ok⊢
  split at ok
  case isFalse hk=>rw [if_neg hk];exact keep
  rename_i hk
  rw [if_pos hk]
  simp only [mu,Bool.and_eq_true,decide_eq_true_eq] at hk
  obtain⟨⟨⟨⟨q1,q2⟩,q3⟩,q4⟩,q5⟩:=hk
  obtain⟨n,e1,hn,_,hr,_⟩:=ws q3
  rw [e1,Int.toNat_natCast] at q4 q5 ok⊢
  rw [ke hn] at q4 q5
  rw [gW hn] at ok⊢
  obtain⟨s,es⟩:∃ s,w.a.subs[n]=s:=⟨_,rfl⟩
  have hs:=List.getElem_mem hn
  rw [es] at q4 q5 hs hr ok⊢
  have S:=C.sa s hs
  have hon:∃ t∈w.b.subs,t.road=bk s.road/\t.take=s.give/\t.give=s.take:=by
   rcases L.a7 hx k7 with g|⟨t,g1,g2⟩
   ·rw [<-q5] at g;exact absurd g (G3 C hs)
   obtain⟨r,r1,r2,r3,r4,r5⟩:=(C.sb t g1).like
   have:r=s:=Gv C.sad r1 hs (by rw [r4,g2,q5])
   subst this
   exact⟨t,g1,by rw [r3];rfl,r5.symm,r4.symm⟩
  have hat:∀ (i:Nat) (h1:i < (w.a.subs.set n { s with state:=3 }).length) (h2:i < w.a.subs.length),SubTo w.a.subs[i] (w.a.subs.set n { s with state:=3 })[i]:=by
   intro i h1 h2
   rw [List.getElem_set]
   split
   ·rename_i e;subst e
    rw [es]
    exact⟨rfl,rfl,rfl,fun h=>⟨by simp,rfl,rfl⟩⟩
   exact SubTo.refl _
  refine PutA.step ⟨rfl,rfl,rfl,rfl,rfl,⟨[],by simp [p3]⟩,ok.1,ok.2,C.sia,rfl,rfl,⟨C.da.1,Int.le_refl _⟩,fun r hr=>?_,fun r hr=>?_,?_,fun h hh=>?_,C.oa,C.fa,fun _ _ h=>h,C.oia,C.iia⟩ C fun _=>em
  ·obtain⟨i,hi,rfl⟩:=List.getElem_of_mem hr
   exact⟨_,List.getElem_mem (by simpa [p3] using hi),hat i (by simpa using hi) hi⟩
  ·rcases List.mem_or_eq_of_mem_set hr with hr|hr
   ·exact C.sa r hr
   rw [hr]
   exact⟨S.t4,S.tn,S.mine,S.own,S.far,S.th,fun _=>hon,fun h=>by simp at h⟩
  ·have p:=C.sad
   rw [List.pairwise_iff_getElem] at p⊢
   intro i j hi hj hij
   dsimp only [p3] at hi hj⊢
   have hi':i < w.a.subs.length:=by simpa using hi
   have hj':j < w.a.subs.length:=by simpa using hj
   rw [(hat i hi hi').take,(hat j hj hj').take]
   exact p i j hi' hj' hij
  have H:=C.ha h hh
  refine⟨H.m4,fun r hr=>?_,H.th⟩
  rcases List.mem_or_eq_of_mem_set hr with hr|hr
  ·exact H.sep r hr
  rw [hr];exact H.sep s hs
 by_cases k8:x.kind=8
 ·rw [y9 hc k8] at ok⊢
  unfold bC at ok⊢
  split at ok
  case isFalse hk=>rw [if_neg hk];exact keep
  rename_i hk
  rw [if_pos hk]
  simp only [lH,Bool.and_eq_true,decide_eq_true_eq] at hk
  obtain⟨⟨⟨⟨q1,q2⟩,_⟩,_⟩,_⟩:=hk
  rw [C.pa] at q2
  obtain⟨t1,t2⟩:=L.a8 hx k8 _ _ q2
  obtain⟨n,e1,_,hn,_,_,hr,_⟩:=Hh q1
  refine PutA.step (MildA.put ⟨rfl,rfl,rfl,rfl,rfl,⟨[],by simp [p3]⟩,ok,⟨rfl,rfl,rfl,rfl⟩,SubsKeep.refl _,fun h hh=>⟨h,hh,HalfKeep.refl h⟩,C.oa,fun f hf=>?_,fun _ _ h=>h,C.oia,C.iia⟩ C) C fun C'=>en (u4 (by simp [E6,rO,aq]) ?_)
  ·rcases sN hf with rfl|hf
   ·exact⟨t1,t2⟩
   exact C.fa f hf
  show ¬ sideAt (roadOf x).far=0
  rw [<-hr]
  have:=(C.sa _ (List.getElem_mem hn)).far
  omega
 by_cases k9:x.kind=9
 ·rw [y_ hc k9] at ok⊢
  unfold bD at ok⊢
  dsimp only at ok⊢
  split at ok
  case isFalse hk=>rw [if_neg hk];exact keep
  rename_i hk
  rw [if_pos hk]
  simp only [hZ,Bool.and_eq_true,decide_eq_true_eq] at hk
  obtain⟨n,e1,hn,_⟩:=EW hk.1.2
  rw [e1,Int.toNat_natCast,hV hn] at ok⊢
  refine PutA.step (MildA.put ⟨rfl,rfl,rfl,rfl,rfl,⟨[],by simp [p3]⟩,ok,⟨rfl,rfl,rfl,rfl⟩,SubsKeep.refl _,fun h hh=>⟨h,hh,HalfKeep.refl h⟩,fun q hq=>?_,C.fa,fun i d h=>?_,C.oia,C.iia⟩ C) C fun _=>em
  ·rcases List.mem_or_eq_of_mem_set hq with hq|hq
   ·exact C.oa q hq
   rw [hq];exact (show sideAt w.a.own[n].addr=1 from C.oa _ (List.getElem_mem hn))
  rcases h with⟨q,h1,h2,h3⟩|h
  ·obtain⟨j,hj,rfl⟩:=List.getElem_of_mem h1
   by_cases hjn:n=j
   ·subst hjn
    exact .inl ⟨_,List.mem_set hn _,h2,h3⟩
   refine .inl ⟨w.a.own[j],?_,h2,h3⟩
   dsimp only [p3]
   rw [List.mem_iff_getElem]
   exact⟨j,by simpa using hj,by rw [List.getElem_set_ne hjn]⟩
  exact .inr h
 by_cases k10:x.kind=10
 ·rw [vB hc k10] at ok⊢
  unfold bE at ok⊢
  dsimp only at ok⊢
  split at ok
  case isFalse hk=>rw [if_neg hk];exact keep
  rename_i hk
  rw [if_pos hk]
  refine PutA.step (MildA.put ⟨rfl,rfl,rfl,rfl,rfl,⟨[],by simp [p3]⟩,ok,⟨rfl,rfl,rfl,rfl⟩,SubsKeep.map fun s hs=>?_,fun h hh=>⟨h,hh,HalfKeep.refl h⟩,C.oa,fun f hf=>C.fa f (qs hf),fun _ _ h=>h,C.oia,C.iia⟩ C) C fun _=>em
  rw [jP];split
  ·exact⟨rfl,rfl,rfl,rfl,rfl,.inr rfl⟩
  exact SubKeep.refl s
 by_cases k11:x.kind=11
 ·rw [vC hc k11] at ok⊢
  unfold bF at ok⊢
  split at ok
  case isFalse hk=>rw [if_neg hk];exact keep
  rename_i hk
  rw [if_pos hk]
  simp only [qb,Bool.and_eq_true,decide_eq_true_eq] at hk
  obtain⟨n,e1,_,hn,_,ht,hr,_⟩:=Hh hk.1
  have hsl:Slice w.wroteB x.pos x.text:=by
   rcases L.a11 hx k11 with g|g
   ·rw [<-ht] at g;exact absurd g (G3 C (List.getElem_mem hn))
   exact g
  refine PutA.step (MildA.put ⟨rfl,rfl,rfl,rfl,rfl,⟨[],by simp [p3]⟩,ok,⟨rfl,rfl,rfl,rfl⟩,SubsKeep.refl _,fun h hh=>⟨h,hh,HalfKeep.refl h⟩,C.oa,C.fa,fun _ _ h=>h,C.oia,Fx C.iia G hsl⟩ C) C fun C'=>en (u4 (by simp [E6,vA,aq]) ?_)
  show ¬ sideAt (roadOf x).far=0
  rw [<-hr]
  have:=(C.sa _ (List.getElem_mem hn)).far
  omega
 by_cases k12:x.kind=12
 ·rw [vD hc k12] at ok⊢
  unfold bA at ok⊢
  dsimp only at ok⊢
  split at ok
  case isFalse hk=>rw [if_neg hk];exact keep
  rename_i hk
  rw [if_pos hk]
  exact PutA.step (MildA.put ⟨rfl,rfl,rfl,rfl,rfl,⟨[],by simp [p3]⟩,ok,⟨rfl,rfl,rfl,rfl⟩,SubsKeep.refl _,fun h hh=>⟨h,hh,HalfKeep.refl h⟩,C.oa,C.fa,fun _ _ h=>h,HP C.oia,C.iia⟩ C) C fun _=>em
 by_cases k13:x.kind=13
 ·rw [vE hc k13] at ok⊢
  unfold bf at ok⊢
  dsimp only at ok⊢
  split at ok
  case isFalse hk=>rw [if_neg hk];exact keep
  rename_i hk
  rw [if_pos hk]
  exact PutA.step (MildA.put ⟨rfl,rfl,rfl,rfl,rfl,⟨[],by simp [p3]⟩,ok,⟨rfl,rfl,rfl,rfl⟩,SubsKeep.st4 _ _,fun h hh=>⟨h,hh,HalfKeep.refl h⟩,C.oa,C.fa,fun _ _ h=>h,C.oia,C.iia⟩ C) C fun _=>em
 rw [y2 fun k hk=>by omega];exact keep
theorem G5 {l:List HalfD} {n:Nat} {q:HalfD} (p:l.Pairwise fun h k=>¬ h.take=k.take) (hq:∀ (i:Nat) (hi:i < l.length),¬ i=n->¬ l[i].take=q.take):(l.set n q).Pairwise fun h k=>¬ h.take=k.take:=by
 rw [List.pairwise_iff_getElem] at p⊢
 intro i j hi hj hij
 have hi':i < l.length:=by simpa using hi
 have hj':j < l.length:=by simpa using hj
 rw [List.getElem_set,List.getElem_set]
 by_cases h1:n=i
 ·rw [if_pos h1,if_neg (by omega)]
  exact fun hc=>hq j hj' (by omega) hc.symm
 rw [if_neg h1]
 by_cases h2:n=j
 ·rw [if_pos h2];exact hq i hi' (by omega)
 rw [if_neg h2];exact p i j hi' hj' hij
theorem HR {l:List HalfD} (h:l.Pairwise fun s t=>¬ s.take=t.take) {s t:HalfD} (hs:s∈l) (ht:t∈l) (e:s.take=t.take):s=t:=by
 obtain⟨i,hi,rfl⟩:=List.getElem_of_mem hs
 obtain⟨j,hj,rfl⟩:=List.getElem_of_mem ht
 rw [List.pairwise_iff_getElem] at h
 rcases Nat.lt_trichotomy i j with hl|hl|hl
 ·exact absurd e (h i j hi hj hl)
 ·subst hl;rfl
 exact absurd e.symm (h j i hj hi hl)
theorem Io {w:WorldD} {x:LetterD} (C:Core w) (G:SmallP w.b.inp) (L:LetI w x) (hx:sideAt x.to=2):Step w (inB w (bM w.b x).1) (bM w.b x).2:=by
 have ok:=GY (x:=x) C.okb C.stb
 have M0:=MildB.refl C
 have keep:Step w (inB w w.b) []:=(M0.put C).step C fun _=>em
 by_cases hc:cp w.b x=true
 case neg=>rw [ur (by simpa using hc)];exact keep
 by_cases k1:x.kind=1
 ·rw [y3 hc k1,ax,if_neg]
  ·exact keep
  simp only [f8,Bool.and_eq_true,decide_eq_true_eq];have:=C.stb;omega
 by_cases k2:x.kind=2
 ·rw [y4 hc k2,aS,if_neg]
  ·exact keep
  simp only [i2,Bool.and_eq_true,decide_eq_true_eq];have:=C.stb;omega
 by_cases k4:x.kind=4
 ·rw [y5 hc k4] at ok⊢
  have hL:=L.b4 hx k4
  have ans:∀ (w':WorldD) (h:HalfD),Core w'->HalfB w'.nums w'.b.draw w'.a.subs w'.b.subs h->h.road=roadOf x->(∀ k∈w'.b.halfs,k.mine=h.mine->k.theirs=h.theirs/\k.take=h.take/\k.road=h.road)->(∀ k∈w'.b.halfs,k.take=h.take->k.theirs=h.theirs)->w'.a.key=w.a.key->w'.b.key=w.b.key->Post w' (kT w.b (roadOf x) h):=by
   intro w' h C' H hr hone htk e1 e2
   have hm:=H.m4
   refine⟨.inr ?_,fun h0=>?_⟩
   ·constructor<;>(intro q1 q2;simp only [kT,aq,ah] at q2;try omega)
    intro m hm'
    simp only [kT,aq] at hm'
    injection hm' with _ _ _ _ hb
    refine .inr ⟨by simp only [kT,aq];omega,fun k hk hkm=>?_⟩
    obtain⟨g1,g2,g3⟩:=hone k hk hkm
    exact⟨by rw [g1,hb],g2,by rw [g3,hr];rfl⟩
   have hth:Loose w'.nums h.theirs:=by
    rcases H.th with g|⟨_,s,s1,_,_,_,s5⟩
    ·exact g
    have:=(C'.sa s s1).own
    rw [s5,hr] at this
    have h0':sideAt (roadOf x).far=0:=h0
    have:sideAt (roadOf x).far=1:=this
    omega
   refine⟨rfl,hth,rfl,fun s hs=>?_,fun t ht=>?_,fun k hk hq=>?_,⟨by simp only [kT,aq];omega,by simp only [kT,aq];omega⟩,fun n hn=>?_⟩
   ·have S:=C'.sa s hs
    have t4:=S.t4
    simp only [kT,aq]
    refine⟨by omega,by omega,?_⟩
    rcases S.mine with g|⟨g,_⟩
    ·exact .inl g
    exact .inr ⟨by omega,by omega⟩
   ·have t4:=(C'.sb t ht).t4
    have:=H.sep t ht
    simp only [kT,aq]
    exact⟨this,by omega⟩
   ·have m4:=(C'.hb k hk).m4
    simp only [kT,aq] at hq
    rcases hq with hq|hq
    ·rw [htk k hk hq];exact hth
    omega
   simp only [kT,aq] at hn
   constructor<;>intro _<;>omega
  unfold br at ok⊢
  split at ok
  case isFalse hk=>rw [if_neg hk];exact keep
  rename_i hk
  rw [if_pos hk]
  split at ok
  ·rename_i hs
   rw [if_pos hs]
   simp only [fg,Bool.and_eq_true,decide_eq_true_eq] at hs
   obtain⟨n,e1,hn,hrd⟩:=Fr hs.1.1
   have hj:wP w.b x=w.b.halfs[n]:=by rw [wP,e1,Int.toNat_natCast,g0 hn]
   rw [hj,e1,Int.toNat_natCast] at ok⊢
   obtain⟨q,hq⟩:∃ q,w.b.halfs[n]=q:=⟨_,rfl⟩
   have hqm:=List.getElem_mem hn
   rw [hq] at ok hrd hqm⊢
   have H:=C.hb q hqm
   have hold:∀ k∈w.b.halfs.set n { q with till:=w.b.now+6 },∃ h∈w.b.halfs,HalfKeep h k:=by
    intro k hk
    rcases List.mem_or_eq_of_mem_set hk with hk|hk
    ·exact⟨k,hk,HalfKeep.refl k⟩
    rw [hk];exact⟨q,hqm,rfl,rfl,rfl,rfl,rfl⟩
   have HB:∀ k,(∃ h∈w.b.halfs,HalfKeep h k)->HalfB w.nums w.b.draw w.a.subs w.b.subs k:=by
    rintro k ⟨h,h1,h2,h3,h4,h5,h6⟩
    have S:=C.hb h h1
    exact⟨by rw [<-h2,<-h4];exact S.m4,by rw [<-h4];exact S.sep,by rw [<-h3,<-h4,<-h5,<-h6];exact S.th⟩
   have P:PutB w (inB w { w.b with bucket:=(bI w.b.bucket).1,halfs:=w.b.halfs.set n { q with till:=w.b.now+6 } }):=by
    refine⟨rfl,rfl,rfl,rfl,rfl,⟨[],by simp [inB]⟩,ok.1,ok.2,C.sib,rfl,rfl,⟨C.db.1,Int.le_refl _⟩,fun t ht=>⟨t,ht,rfl,rfl,rfl⟩,C.sb,fun h hh=>HB h (hold h hh),?_,fun h hh=>?_,C.ob,C.fb,fun _ _ h=>h,C.oib,C.iib⟩
    ·refine G5 C.hbd fun i hi hin=>?_
     have p:=C.hbd
     rw [List.pairwise_iff_getElem] at p
     dsimp only
     rw [<-hq]
     rcases Nat.lt_or_gt_of_ne hin with hl|hl
     ·exact p i n hi hn hl
     exact fun hc=>p n i hn hi hl hc.symm
    obtain⟨k,g1,g2,g3,g4,g5,_⟩:=hold h hh
    exact .inr ⟨k,g1,g2,g3,g4,g5⟩
   refine P.step C fun C'=>en ?_
   have h1:∀ k∈w.b.halfs.set n { q with till:=w.b.now+6 },k.take=q.take->k.theirs=q.theirs/\k.take=q.take/\k.road=q.road:=by
    intro k hk ht
    obtain⟨h,g1,g2,g3,g4,g5,_⟩:=hold k hk
    have:h=q:=HR C.hbd g1 hqm (by rw [g4,ht])
    subst this
    exact⟨g3.symm,g4.symm,g5.symm⟩
   refine ans _ q C' H hrd (fun k hk hm=>?_) (fun k hk ht=>(h1 k hk ht).1) rfl rfl
   have m1:=(HB k (hold k hk)).m4
   have m2:=H.m4
   exact h1 k hk (by omega)
  rename_i hs
  rw [if_neg hs]
  simp only [rF,Bool.and_eq_true,decide_eq_true_eq,vP] at hk
  have hd:=hk.1.1.2
  have db:=C.db
  have hnew:HalfB w.nums (w.b.draw+4) w.a.subs w.b.subs (aK w.b x):=by
   refine⟨⟨by simp only [aK];omega,by simp only [aK];omega,by simp only [aK];omega,by simp only [aK]⟩,fun t ht=>?_,?_⟩
   ·have:=(C.sb t ht).t4
    simp only [aK]
    omega
   rcases hL with g|⟨s,g1,g2,g3,g4,g5⟩
   ·exact .inl g
   refine .inr ⟨fun hc=>?_,s,g1,g2,g3.symm,g4.symm,?_⟩
   ·have:=(C.nn _ hc).2 (by simp only [aK];omega)
    simp only [aK] at this
    omega
   simp only [aK];rw [g5];rfl
  have hput:(∀ h∈(bJ w.b.halfs (aK w.b x)).1,h=aK w.b x\/h∈w.b.halfs)/\(bJ w.b.halfs (aK w.b x)).1.Pairwise fun h k=>¬ h.take=k.take:=by
   have hne:∀ h∈w.b.halfs,¬ h.take=(aK w.b x).take:=fun h hh=>by
    have:=(C.hb h hh).m4
    simp only [aK]
    omega
   rw [bJ];split
   ·dsimp only
    rw [cx];split
    ·refine⟨fun h hh=>?_,G5 C.hbd fun i hi _=>hne _ (List.getElem_mem hi)⟩
     rcases List.mem_or_eq_of_mem_set hh with hh|hh
     ·exact .inr hh
     exact .inl hh
    refine⟨fun h hh=>?_,?_⟩
    ·rcases List.mem_append.1 hh with hh|hh
     ·exact .inr hh
     exact .inl (List.mem_singleton.1 hh)
    rw [List.pairwise_append]
    exact⟨C.hbd,List.pairwise_singleton ..,fun a ha b hb=>by rw [List.mem_singleton.1 hb];exact hne a ha⟩
   exact⟨fun h hh=>.inr hh,C.hbd⟩
  have P:PutB w (inB w { w.b with bucket:=(bI w.b.bucket).1,draw:=w.b.draw+4,halfs:=(bJ w.b.halfs (aK w.b x)).1 }):=by
   refine⟨rfl,rfl,rfl,rfl,rfl,⟨[],by simp [inB]⟩,ok.1,ok.2,C.sib,rfl,rfl,⟨by dsimp only [inB];omega,by dsimp only [inB];omega⟩,fun t ht=>⟨t,ht,rfl,rfl,rfl⟩,fun t ht=>?_,fun h hh=>?_,hput.2,fun h hh=>?_,C.ob,C.fb,fun _ _ h=>h,C.oib,C.iib⟩
   ·have S:=C.sb t ht
    exact⟨by have:=S.t4;dsimp only [inB];omega,S.tn,S.st,S.like⟩
   ·rcases hput.1 h hh with rfl|hh
    ·exact hnew
    have S:=C.hb h hh
    exact⟨by have:=S.m4;dsimp only [inB];omega,S.sep,S.th⟩
   rcases hput.1 h hh with rfl|hh
   ·exact .inl (Int.le_refl _)
   exact .inr ⟨h,hh,rfl,rfl,rfl,rfl⟩
  refine P.step C fun C'=>en ?_
  have h1:∀ k∈(bJ w.b.halfs (aK w.b x)).1,k.take=(aK w.b x).take\/k.mine=(aK w.b x).mine->k=aK w.b x:=by
   intro k hk ht
   rcases hput.1 k hk with g|g
   ·exact g
   have:=(C.hb k g).m4
   simp only [aK] at ht
   omega
  exact ans _ (aK w.b x) C' hnew rfl (fun k hk hm=>by rw [h1 k hk (.inr hm)];exact⟨rfl,rfl,rfl⟩) (fun k hk ht=>by rw [h1 k hk (.inl ht)]) rfl rfl
 by_cases k5:x.kind=5
 ·rw [y6 hc k5,Et]
  ·exact keep
  cases hj:tO w.b x with
  |false=>rfl
  |true=>
   simp only [tO,Bool.and_eq_true,decide_eq_true_eq] at hj
   obtain⟨⟨⟨_,q4⟩,q5⟩,_⟩:=hj
   obtain⟨n,e1,hn,_⟩:=ws q4
   rw [e1,Int.toNat_natCast,ke hn] at q5
   have:=(C.sb _ (List.getElem_mem hn)).st
   omega
 by_cases k6:x.kind=6
 ·rw [y7 hc k6] at ok⊢
  have hL:=L.b6 hx k6
  unfold ao at ok⊢
  split at ok
  case isFalse hk=>rw [if_neg hk];exact keep
  rename_i hk
  rw [if_pos hk]
  split at ok
  ·rename_i ha
   rw [if_pos ha]
   simp only [rE,Bool.and_eq_true,decide_eq_true_eq] at ha
   obtain⟨⟨a1,a2⟩,a3⟩:=ha
   obtain⟨i,e1,hi,hrd⟩:=Fr a1
   have hj:wP w.b x=w.b.halfs[i]:=by rw [wP,e1,Int.toNat_natCast,g0 hi]
   rw [hj] at a3 ok⊢
   obtain⟨q,hq⟩:∃ q,w.b.halfs[i]=q:=⟨_,rfl⟩
   have hqm:=List.getElem_mem hi
   rw [hq] at a3 ok hrd hqm⊢
   have H:=C.hb q hqm
   rw [C.pb] at a3
   obtain⟨s,s1,s2,s3,s4,s5,s6⟩:=hL _ _ a3
   have S:=C.sa s s1
   obtain⟨g1,g2,g3⟩:=S.th.2 q hqm s5
   have hau:¬ q.take∈w.nums/\∃ s∈w.a.subs,1000<=s.mine/\s.mine=q.theirs/\s.take=q.give/\s.road=bk q.road:=by
    rcases H.th with g|g
    ·rw [s4] at g;exact absurd g (G4 C s1 s3)
    exact g
   obtain⟨hn,r,r1,r2,r3,r4,r5⟩:=hau
   have hrs:r=s:=by
    refine Gv C.sad r1 s1 ?_
    have m1:=(C.sa r r1).mine
    have m2:=S.mine
    omega
   subst hrs
   have hdr:bz w.b.halfs (roadOf x)=w.b.halfs.take i++w.b.halfs.drop (i+1):=tR e1
   have hsub:(bz w.b.halfs (roadOf x)).Sublist w.b.halfs:=by rw [hdr];exact qr _ _
   have hoth:∀ k∈bz w.b.halfs (roadOf x),¬ k.take=q.take:=by
    intro k hk
    have p:=C.hbd
    rw [List.pairwise_iff_getElem] at p
    rw [hdr] at hk
    rw [<-hq]
    rcases List.mem_append.1 hk with hk|hk
    ·rw [List.mem_take_iff_getElem] at hk
     obtain⟨j,hj,rfl⟩:=hk
     exact p j i (by omega) hi (by omega)
    rw [List.mem_drop_iff_getElem] at hk
    obtain⟨j,hj,rfl⟩:=hk
    exact fun hc=>p i (i+1+j) hi (by omega) (by omega) hc.symm
   obtain⟨l0,hl0⟩:∃ l0,(if 0<=aU w.b.subs (roadOf x) then bP w.b.subs (aU w.b.subs (roadOf x)).toNat 4 else w.b.subs)=l0:=⟨_,rfl⟩
   rw [hl0] at ok⊢
   have K:SubsKeep w.b.subs l0:=by
    rw [<-hl0];split
    ·exact SubsKeep.st4 _ _
    exact SubsKeep.refl _
   have hmem:jI (roadOf x) q∈l0++[jI (roadOf x) q]:=by simp
   have P:PutB w (inB w { w.b with subs:=l0++[jI (roadOf x) q],halfs:=bz w.b.halfs (roadOf x) }):=by
    refine⟨rfl,rfl,rfl,rfl,rfl,⟨[],by simp [inB]⟩,ok.1,ok.2,C.sib,rfl,rfl,⟨C.db.1,Int.le_refl _⟩,fun t ht=>?_,fun t ht=>?_,fun h hh=>?_,C.hbd.sublist hsub,fun h hh=>.inr ⟨h,hsub.subset hh,rfl,rfl,rfl,rfl⟩,C.ob,C.fb,fun _ _ h=>h,C.oib,C.iib⟩
    ·obtain⟨u,u1,u2⟩:=K.new ht
     exact⟨u,List.mem_append_left _ u1,u2.road,u2.take,u2.give⟩
    ·rcases List.mem_append.1 ht with ht|ht
     ·obtain⟨u,u1,u2⟩:=K.old ht
      exact u2.subB (C.sb u u1)
     rw [List.mem_singleton.1 ht]
     have m4:=H.m4
     exact⟨by simp only [jI,inB];omega,hn,.inl rfl,r,r1,s2,by rw [r5,hrd];rfl,r4,g2.symm⟩
    have S':=C.hb h (hsub.subset hh)
    refine⟨S'.m4,fun t ht=>?_,S'.th⟩
    rcases List.mem_append.1 ht with ht|ht
    ·obtain⟨u,u1,u2⟩:=K.old ht
     rw [u2.take];exact S'.sep u u1
    rw [List.mem_singleton.1 ht]
    exact fun hc=>hoth h hh hc.symm
   refine P.step C fun C'=>en ⟨.inr ?_,fun h0=>?_⟩
   ·constructor<;>(intro p1 p2;simp only [pY,aq,ah] at p2;try omega)
    exact .inr ⟨_,hmem,rfl⟩
   have h0':sideAt (roadOf x).far=0:=h0
   have h3:=(Hm C' (t:=jI (roadOf x) q) hmem).1
   have h3':sideAt (roadOf x).far=1:=h3
   omega
  rename_i ha
  rw [if_neg ha]
  split at ok
  ·rename_i hb
   rw [if_pos hb]
   simp only [BN,Bool.and_eq_true,decide_eq_true_eq] at hb
   obtain⟨n,e1,hn,_,hr,_⟩:=ws hb.1.1
   have hj:Cg w.b x=w.b.subs[n]:=by rw [Cg,e1,Int.toNat_natCast,ke hn]
   rw [hj]
   refine (M0.put C).step C fun C'=>en ⟨.inr ?_,fun h0=>?_⟩
   ·constructor<;>(intro p1 p2;simp only [pY,aq,ah] at p2;try omega)
    exact .inr ⟨_,List.getElem_mem hn,rfl⟩
   have h0':sideAt (roadOf x).far=0:=h0
   have h3:=(Hm C (List.getElem_mem hn)).1
   rw [hr] at h3
   omega
  rename_i hb
  rw [if_neg hb];exact keep
 by_cases k7:x.kind=7
 ·rw [y8 hc k7,Dk]
  ·exact keep
  cases hj:mu w.b x with
  |false=>rfl
  |true=>
   simp only [mu,Bool.and_eq_true,decide_eq_true_eq] at hj
   obtain⟨⟨⟨_,q3⟩,q4⟩,_⟩:=hj
   obtain⟨n,e1,hn,_⟩:=ws q3
   rw [e1,Int.toNat_natCast,ke hn] at q4
   have:=(C.sb _ (List.getElem_mem hn)).st
   omega
 by_cases k8:x.kind=8
 ·rw [y9 hc k8] at ok⊢
  unfold bC at ok⊢
  split at ok
  case isFalse hk=>rw [if_neg hk];exact keep
  rename_i hk
  rw [if_pos hk]
  simp only [lH,Bool.and_eq_true,decide_eq_true_eq] at hk
  obtain⟨⟨⟨⟨q1,q2⟩,_⟩,_⟩,_⟩:=hk
  rw [C.pb] at q2
  obtain⟨t1,t2⟩:=L.b8 hx k8 _ _ q2
  obtain⟨n,e1,_,hn,_,_,hr,_⟩:=Hh q1
  refine PutB.step (MildB.put ⟨rfl,rfl,rfl,rfl,rfl,⟨[],by simp [inB]⟩,ok,⟨rfl,rfl,rfl,rfl⟩,SubsKeep.refl _,List.Sublist.refl _,C.ob,fun f hf=>?_,fun _ _ h=>h,C.oib,C.iib⟩ C) C fun C'=>en (u4 (by simp [E6,rO,aq]) ?_)
  ·rcases sN hf with rfl|hf
   ·exact⟨t1,t2⟩
   exact C.fb f hf
  show ¬ sideAt (roadOf x).far=0
  rw [<-hr]
  have:=(Hm C (List.getElem_mem hn)).1
  omega
 by_cases k9:x.kind=9
 ·rw [y_ hc k9] at ok⊢
  unfold bD at ok⊢
  dsimp only at ok⊢
  split at ok
  case isFalse hk=>rw [if_neg hk];exact keep
  rename_i hk
  rw [if_pos hk]
  simp only [hZ,Bool.and_eq_true,decide_eq_true_eq] at hk
  obtain⟨n,e1,hn,_⟩:=EW hk.1.2
  rw [e1,Int.toNat_natCast,hV hn] at ok⊢
  refine PutB.step (MildB.put ⟨rfl,rfl,rfl,rfl,rfl,⟨[],by simp [inB]⟩,ok,⟨rfl,rfl,rfl,rfl⟩,SubsKeep.refl _,List.Sublist.refl _,fun q hq=>?_,C.fb,fun i d h=>?_,C.oib,C.iib⟩ C) C fun _=>em
  ·rcases List.mem_or_eq_of_mem_set hq with hq|hq
   ·exact C.ob q hq
   rw [hq];exact (show sideAt w.b.own[n].addr=2 from C.ob _ (List.getElem_mem hn))
  rcases h with⟨q,h1,h2,h3⟩|h
  ·obtain⟨j,hj,rfl⟩:=List.getElem_of_mem h1
   by_cases hjn:n=j
   ·subst hjn
    exact .inl ⟨_,List.mem_set hn _,h2,h3⟩
   refine .inl ⟨w.b.own[j],?_,h2,h3⟩
   dsimp only [inB]
   rw [List.mem_iff_getElem]
   exact⟨j,by simpa using hj,by rw [List.getElem_set_ne hjn]⟩
  exact .inr h
 by_cases k10:x.kind=10
 ·rw [vB hc k10] at ok⊢
  unfold bE at ok⊢
  dsimp only at ok⊢
  split at ok
  case isFalse hk=>rw [if_neg hk];exact keep
  rename_i hk
  rw [if_pos hk]
  refine PutB.step (MildB.put ⟨rfl,rfl,rfl,rfl,rfl,⟨[],by simp [inB]⟩,ok,⟨rfl,rfl,rfl,rfl⟩,SubsKeep.map fun s hs=>?_,List.Sublist.refl _,C.ob,fun f hf=>C.fb f (qs hf),fun _ _ h=>h,C.oib,C.iib⟩ C) C fun _=>em
  rw [jP];split
  ·exact⟨rfl,rfl,rfl,rfl,rfl,.inr rfl⟩
  exact SubKeep.refl s
 by_cases k11:x.kind=11
 ·rw [vC hc k11] at ok⊢
  unfold bF at ok⊢
  split at ok
  case isFalse hk=>rw [if_neg hk];exact keep
  rename_i hk
  rw [if_pos hk]
  simp only [qb,Bool.and_eq_true,decide_eq_true_eq] at hk
  obtain⟨n,e1,_,hn,_,ht,hr,_⟩:=Hh hk.1
  have hsl:Slice w.wroteA x.pos x.text:=by
   rcases L.b11 hx k11 with g|g
   ·rw [<-ht] at g;exact absurd g (H2 C (List.getElem_mem hn))
   exact g
  refine PutB.step (MildB.put ⟨rfl,rfl,rfl,rfl,rfl,⟨[],by simp [inB]⟩,ok,⟨rfl,rfl,rfl,rfl⟩,SubsKeep.refl _,List.Sublist.refl _,C.ob,C.fb,fun _ _ h=>h,C.oib,Fx C.iib G hsl⟩ C) C fun C'=>en (u4 (by simp [E6,vA,aq]) ?_)
  show ¬ sideAt (roadOf x).far=0
  rw [<-hr]
  have:=(Hm C (List.getElem_mem hn)).1
  omega
 by_cases k12:x.kind=12
 ·rw [vD hc k12] at ok⊢
  unfold bA at ok⊢
  dsimp only at ok⊢
  split at ok
  case isFalse hk=>rw [if_neg hk];exact keep
  rename_i hk
  rw [if_pos hk]
  exact PutB.step (MildB.put ⟨rfl,rfl,rfl,rfl,rfl,⟨[],by simp [inB]⟩,ok,⟨rfl,rfl,rfl,rfl⟩,SubsKeep.refl _,List.Sublist.refl _,C.ob,C.fb,fun _ _ h=>h,HP C.oib,C.iib⟩ C) C fun _=>em
 by_cases k13:x.kind=13
 ·rw [vE hc k13] at ok⊢
  unfold bf at ok⊢
  dsimp only at ok⊢
  split at ok
  case isFalse hk=>rw [if_neg hk];exact keep
  rename_i hk
  rw [if_pos hk]
  exact PutB.step (MildB.put ⟨rfl,rfl,rfl,rfl,rfl,⟨[],by simp [inB]⟩,ok,⟨rfl,rfl,rfl,rfl⟩,SubsKeep.st4 _ _,List.Sublist.refl _,C.ob,C.fb,fun _ _ h=>h,C.oib,C.iib⟩ C) C fun _=>em
 rw [y2 fun k hk=>by omega];exact keep
theorem tb (t h:List UInt8):aP 25 [.sc (.st t),.sc (.st h)] ([]) (.sc (.bo (Es t h))) ([]):=by
 refine qE Tryz.func25 Tryz.ntmps25 Tryz.results25 fun E hE=>?_
 refine qB (fun h1=>?_) fun h1=>?_
 ·skip
  refine qJ [] ?_
  simp [Es,h1]
 refine qJ [] ?_
 simp [Es,h1]
theorem tk (t h:List UInt8):aP 117 [.sc (.st t),.sc (.st h)] ([]) (.sc (.bo (Es t h))) ([]):=by
 refine qE Tryz.func117 Tryz.ntmps117 Tryz.results117 fun E hE=>?_
 refine qB (fun h1=>?_) fun h1=>?_
 ·skip
  refine qJ [] ?_
  simp [Es,h1]
 refine qJ [] ?_
 simp [Es,h1]
theorem Fn (w:WorldD) (s1:w.readB.length+w.b.inp.ready.length<=4611686018427387904) (s2:w.readA.length+w.a.inp.ready.length<=4611686018427387904):aP 53 [.ag (w.cs 0)] (w.hp false) (.sc (.bo (la w))) (w.hp false):=by
 refine qE Tryz.func53 Tryz.ntmps53 Tryz.results53 fun E hE=>?_
 refine qK (tk _ _) [] ?_
 refine qB (fun h1=>?_) fun h1=>?_
 ·skip
  refine qK (tk _ _) [] ?_
  refine qJ (qI 0 21) ?_
  simp [la,h1]
 refine qJ (qI 0 21) ?_
 simp [la,h1]
theorem GL (w:WorldD) (a1:w.a.far.length<=1048576) (a2:w.b.own.length<=1048576) (a3:w.b.done.length<=1048576) (b1:w.b.far.length<=1048576) (b2:w.a.own.length<=1048576) (b3:w.a.done.length<=1048576):aP 55 [.ag (w.cs 0)] (w.hp false) (.sc (.bo (v6 w))) (w.hp false):=by
 refine qE Tryz.func55 Tryz.ntmps55 Tryz.results55 fun E hE=>?_
 refine qK (EY w.a w.b a1 a2 a3) (qI 0 14) ?_
 refine qB (fun h1=>?_) fun h1=>?_
 ·skip
  refine qK (EY w.b w.a b1 b2 b3) (qI 7 7++qI 0 7) ?_
  refine qJ (qI 0 21) ?_
  simp [v6,h1]
 refine qJ (qI 0 21) ?_
 simp [v6,h1]
end
end Go.Proofs.YtjghbknhneffjaaGreat
