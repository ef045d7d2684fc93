/-
  Texts merged for this claim by shake.py: what its proof needs.
-/
import Derived.Test.YtjghbknhneffjaaGreatZFnB2K
import Derived.Test.YtjghbknhneffjaaGreatZFnB2L
set_option maxHeartbeats 16000000
set_option maxRecDepth 100000
set_option linter.unusedVariables false
set_option linter.unusedSimpArgs false
namespace Go.Proofs.YtjghbknhneffjaaGreat
section
open Go.RowKit
section
variable {P:Program} {β:Be} {s:S} {a:Act} {w:World} {o:Oper} {r:OpR} {ty:TypeId}
end
end
section
open Go.RowKit
section
variable {β β0':Be} {ρ:Rho} {N:Nat}
end
end
section
open Go.RowKit
section
variable {P:Program} {β:Be} {s:S} {w:World} {tm:Array Value}
end
end
section
open Go.RowKit
end
section
open Go.RowKit
section
variable {P:Program} {E:Entry} {F:S->Prop} {c q:Prop}
end
end
section
open Go.ChangeShapes Go.WideShapes Go.ChangeAt Go.RowKit
section
variable {H:Type} {enc:TypeId×Value->H} {P:Program} {w:World} {base:Nat} {held:Bool}
end
end
section
end
section
def c6 (side:Int) (s:SubD):Bool:=sideAt s.road.own == side && sideAt s.road.far == IntKind.i64.wrap (3 - side)
def lb (e:EndD):Bool:=e.subs.all (c6 e.side)
def tS (b:EndD) (f:AddrD):Bool:=fN b.own f.addr || mq b.done f.id
def GF (a b:EndD):Bool:=a.far.all (tS b)
def v6 (w:WorldD):Bool:=GF w.a w.b && GF w.b w.a
theorem E_ {l:List SubD} {p:SubD->Bool}:∀ {r:List SubD} {k:Nat},r=l.drop k->(iY k r).all (fun n=>p (aN l n))=r.all fun s=>s.state != 3 || p s
 |[],k,hr=>by simp [iY]
 |s::r,k,hr=>by
  have hk:k < l.length:=by
   have:=congrArg List.length hr
   simp at this;omega
  rw [List.drop_eq_getElem_cons hk] at hr
  obtain⟨h1,h2⟩:=List.cons.inj hr
  rw [iY,List.all_cons]
  split
  ·rename_i hs
   rw [List.all_cons,E_ h2,ke hk,<-h1]
   simp [hs]
  rename_i hs
  rw [E_ h2]
  simp [hs]
theorem HW {l:List SubD} {p:SubD->Bool}:(j0 l).all (fun n=>p (aN l n))=l.all fun s=>s.state != 3 || p s:=E_ (by simp)
def p6 (s:SubD) (on:Bool) (t:SubD):Bool:=(t.road.own == s.road.far && (t.road.far == s.road.own && t.road.port == s.road.port)) && t.take == s.give && t.give == s.take && (!on || t.state == 3)
def np (b:List SubD) (on:Bool) (s:SubD):Bool:=b.any (p6 s on)
def p7 (a b:EndD):Bool:=a.subs.all fun s=>s.state != 3 || np b.subs false s
def la (w:WorldD):Bool:=Es w.wroteA (w.readB++w.b.inp.ready) && Es w.wroteB (w.readA++w.a.inp.ready)
theorem Gd {l m:List Int} {t:Int} {most k:Nat} (h:k < m.length):kg l t most (m.drop k)=kg l t (max most (yF l m[k] t)) (m.drop (k+1)):=by
 rw [List.drop_eq_getElem_cons h,kg]
theorem Ge {α:Type} {p:α->Bool} {l:List α} {k:Nat} (h:k < l.length):((l.take (k+1)).filter p).length=((l.take k).filter p).length+(if p l[k] then 1 else 0):=by
 rw [List.take_succ_eq_append_getElem h,List.filter_append,List.length_append]
 by_cases hp:p l[k]<;>simp [hp]
theorem Fa {α:Type} {p:α->Bool} {l:List α} {k:Nat}:((l.take k).filter p).length<=l.length:=by
 refine Nat.le_trans (List.length_filter_le _ _) ?_
 simp;omega
def zs (b:BucketD) (t:Int):Int:=if bucketOk b && bj t 0 100000 then b.burst+b.rate*t else 0
def gated (l:List Int) (ticks:Int):Bool:=bj ticks 1 100 && (List.range ticks.toNat).all fun k=>decide ((vt l (k+1:Nat):Int)<=3+((k+1:Nat):Int))
def modest (e:EndD):Bool:=fresh e && decide ((e.halfs.length:Int)<=4) && decide ((e.subs.length:Int)<=8)
def ek (w:WorldD):Bool:=gated w.answersA 20 && gated w.answersB 20 && modest w.a && modest w.b
end
section
end
section
end
section
open Go.RowKit
theorem Fb (e:EndD) (hl:e.halfs.length<=1048576):aP 95 [.ag (e.cs 0)] (e.hp false) (.sc (.bo (fresh e))) (e.hp false):=by
 refine qE Tryz.func95 Tryz.ntmps95 Tryz.results95 fun E hE=>?_
 refine jx 7 hE (fun s (k:Nat)=>s.at (qU [0,1,2,1,4,30]) [(3,.sc (.int .i64 (k:Nat)))] (s.hp)) (fun (k:Nat)=>k<=e.halfs.length/\(e.halfs.drop k).all (fun h=> !Bd e.now h)=fresh e) (fun (k:Nat)=>e.halfs.length - k) 0 (qI 0 8) (⟨Nat.zero_le _,rfl⟩) fun k hk N hN=>?_
 obtain⟨hk1,hk2⟩:=hk
 refine qR ?_
 refine qB (fun h=>?_) fun h=>?_
 ·rw [yC h] at hk2
  refine qX ?_
  refine qD [0,1,2,3,4,5,6,7,8,9,10,11,12,13,14,15,16,17,18,19,20,21,22] ?_
  refine qB (fun h2=>?_) fun h2=>?_
  ·refine qG ?_
   refine qB (fun h3=>?_) fun h3=>?_
   ·have hp:Bd e.now e.halfs[k]=true:=by simp [Bd,h3]
    rw [hp] at hk2
    refine qJ (qI 0 7) ?_
    exact hk2
   have hp:Bd e.now e.halfs[k]=false:=by simp [Bd];omega
   rw [hp] at hk2
   exact qN hN (k+1) (qI 0 8) (by (try dsimp only);exact⟨by omega,hk2⟩)
  have hp:Bd e.now e.halfs[k]=true:=by simp [Bd,h2]
  rw [hp] at hk2
  refine qG ?_
  refine qJ (qI 0 7) ?_
  exact hk2
 rw [p0 (by omega)] at hk2
 refine qJ (qI 0 7) ?_
 exact hk2
theorem u6 (e:EndD) (hl:e.subs.length<=1048576):aP 92 [.ag (e.cs 0)] (e.hp false) (.sc (.bo (lb e))) (e.hp false):=by
 refine qE Tryz.func92 Tryz.ntmps92 Tryz.results92 fun E hE=>?_
 refine jx 7 hE (fun s (k:Nat)=>s.at (qU [0,1,2,1,4,2,9,21]) [(8,.sc (.int .i64 (k:Nat)))] (s.hp)) (fun (k:Nat)=>k<=e.subs.length/\(e.subs.drop k).all (c6 e.side)=lb e) (fun (k:Nat)=>e.subs.length - k) 0 (qI 0 8) (⟨Nat.zero_le _,rfl⟩) fun k hk N hN=>?_
 obtain⟨hk1,hk2⟩:=hk
 refine qR ?_
 refine qB (fun h=>?_) fun h=>?_
 ·rw [yC h] at hk2
  refine qX ?_
  refine qD [0,1,2,4,5,3,6,7,8,9,10,12,13,14,11,15,16] ?_
  refine aQ (d1 _) [] ?_
  refine qB (fun h2=>?_) fun h2=>?_
  ·refine aQ (d1 _) [] ?_
   refine qG ?_
   refine qB (fun h3=>?_) fun h3=>?_
   ·have hp:c6 e.side e.subs[k]=false:=by simp [c6,h2,h3]
    rw [hp] at hk2
    refine qJ (qI 0 7) ?_
    exact hk2
   have hp:c6 e.side e.subs[k]=true:=by simp [c6,h2,h3]
   rw [hp] at hk2
   exact qN hN (k+1) (qI 0 8) (by (try dsimp only);exact⟨by omega,hk2⟩)
  have hp:c6 e.side e.subs[k]=false:=by simp [c6,h2]
  rw [hp] at hk2
  refine qG ?_
  refine qJ (qI 0 7) ?_
  exact hk2
 rw [p0 (by omega)] at hk2
 refine qJ (qI 0 7) ?_
 exact hk2
theorem u8 (e:EndD) (hl:e.subs.length<=1048576):aP 54 [.ag (e.cs 0)] (e.hp false) (.sc (.bo (lb e))) (e.hp false):=by
 refine qE Tryz.func54 Tryz.ntmps54 Tryz.results54 fun E hE=>?_
 refine jx 7 hE (fun s (k:Nat)=>s.at (qU [0,1,2,1,4,29]) [(3,.sc (.int .i64 (k:Nat)))] (s.hp)) (fun (k:Nat)=>k<=e.subs.length/\(e.subs.drop k).all (c6 e.side)=lb e) (fun (k:Nat)=>e.subs.length - k) 0 (qI 0 8) (⟨Nat.zero_le _,rfl⟩) fun k hk N hN=>?_
 obtain⟨hk1,hk2⟩:=hk
 refine qR ?_
 refine qB (fun h=>?_) fun h=>?_
 ·rw [yC h] at hk2
  refine qX ?_
  refine qD [0,1,3,4,2,5,6,7,8,10,11,12,9,13,14] ?_
  refine aQ (cV _) [] ?_
  refine qB (fun h2=>?_) fun h2=>?_
  ·refine aQ (cV _) [] ?_
   refine qG ?_
   refine qB (fun h3=>?_) fun h3=>?_
   ·have hp:c6 e.side e.subs[k]=false:=by simp [c6,h2,h3]
    rw [hp] at hk2
    refine qJ (qI 0 7) ?_
    exact hk2
   have hp:c6 e.side e.subs[k]=true:=by simp [c6,h2,h3]
   rw [hp] at hk2
   exact qN hN (k+1) (qI 0 8) (by (try dsimp only);exact⟨by omega,hk2⟩)
  have hp:c6 e.side e.subs[k]=false:=by simp [c6,h2]
  rw [hp] at hk2
  refine qG ?_
  refine qJ (qI 0 7) ?_
  exact hk2
 rw [p0 (by omega)] at hk2
 refine qJ (qI 0 7) ?_
 exact hk2
theorem ta (a b:EndD) (h1:a.far.length<=1048576) (h2:b.own.length<=1048576) (h3:b.done.length<=1048576):aP 179 [.ag (a.cs 0),.ag (b.cs 7)] (a.hp false++b.hp false) (.sc (.bo (GF a b))) (a.hp false++b.hp false):=by
 refine qE Tryz.func179 Tryz.ntmps179 Tryz.results179 fun E hE=>?_
 refine jx 14 hE (fun s (k:Nat)=>s.at (qU [0,3,4,1,6,2,11,17]) [(10,.sc (.int .i64 (k:Nat)))] (s.hp)) (fun (k:Nat)=>k<=a.far.length/\(a.far.drop k).all (tS b)=GF a b) (fun (k:Nat)=>a.far.length - k) 0 (qI 0 16) (⟨Nat.zero_le _,rfl⟩) fun k hk N hN=>?_
 obtain⟨hk1,hk2⟩:=hk
 refine qR ?_
 refine qB (fun h=>?_) fun h=>?_
 ·rw [yC h] at hk2
  refine qX ?_
  refine qK (cl b _ h2) (qI 7 7) ?_
  refine qB (fun h4=>?_) fun h4=>?_
  ·refine qK (ct b.done _ h3) (qI 12 1) ?_
   refine qX ?_
   refine qX ?_
   refine qB (fun h5=>?_) fun h5=>?_
   ·have hp:tS b a.far[k]=false:=by simp [tS,h4,h5]
    rw [hp] at hk2
    refine qJ (qI 0 14) ?_
    exact hk2
   have hp:tS b a.far[k]=true:=by simp [tS,h5]
   rw [hp] at hk2
   exact qN hN (k+1) (qI 0 16) (by (try dsimp only);exact⟨by omega,hk2⟩)
  have hp:tS b a.far[k]=true:=by simp [tS,h4]
  rw [hp] at hk2
  exact qN hN (k+1) (qI 0 16) (by (try dsimp only);exact⟨by omega,hk2⟩)
 rw [p0 (by omega)] at hk2
 refine qJ (qI 0 14) ?_
 exact hk2
theorem EY (a b:EndD) (h1:a.far.length<=1048576) (h2:b.own.length<=1048576) (h3:b.done.length<=1048576):aP 118 [.ag (a.cs 0),.ag (b.cs 7)] (a.hp false++b.hp false) (.sc (.bo (GF a b))) (a.hp false++b.hp false):=by
 refine qE Tryz.func118 Tryz.ntmps118 Tryz.results118 fun E hE=>?_
 refine jx 14 hE (fun s (k:Nat)=>s.at (qU [0,2,4,1,6,28]) [(5,.sc (.int .i64 (k:Nat)))] (s.hp)) (fun (k:Nat)=>k<=a.far.length/\(a.far.drop k).all (tS b)=GF a b) (fun (k:Nat)=>a.far.length - k) 0 (qI 0 16) (⟨Nat.zero_le _,rfl⟩) fun k hk N hN=>?_
 obtain⟨hk1,hk2⟩:=hk
 refine qR ?_
 refine qB (fun h=>?_) fun h=>?_
 ·rw [yC h] at hk2
  refine qX ?_
  refine qD [0,1,2,3,4,5,6,7,8,9,10,11,12,13,14,15,16,17,18,19,20] ?_
  refine aQ (ej b _ h2) (qI 7 7) ?_
  refine qB (fun h4=>?_) fun h4=>?_
  ·refine aQ (eA b.done _ h3) (qI 12 1) ?_
   refine qG ?_
   refine qB (fun h5=>?_) fun h5=>?_
   ·have hp:tS b a.far[k]=false:=by simp [tS,h4,h5]
    rw [hp] at hk2
    refine qJ (qI 0 14) ?_
    exact hk2
   have hp:tS b a.far[k]=true:=by simp [tS,h5]
   rw [hp] at hk2
   exact qN hN (k+1) (qI 0 16) (by (try dsimp only);exact⟨by omega,hk2⟩)
  have hp:tS b a.far[k]=true:=by simp [tS,h4]
  rw [hp] at hk2
  refine qG ?_
  exact qN hN (k+1) (qI 0 16) (by (try dsimp only);exact⟨by omega,hk2⟩)
 rw [p0 (by omega)] at hk2
 refine qJ (qI 0 14) ?_
 exact hk2
theorem Gf {s t:SubD} {on:Bool} (h:¬ t.road.own=s.road.far\/¬ t.road.far=s.road.own\/¬ t.road.port=s.road.port):p6 s on t=false:=by
 rw [p6]
 rcases h with h|h|h<;>simp [h]
theorem Gg {s t:SubD} {on:Bool} (h:¬ t.take=s.give):p6 s on t=false:=by simp [p6,h]
theorem Gh {s t:SubD} {on:Bool} (h:¬ t.give=s.take):p6 s on t=false:=by simp [p6,h]
theorem Ht {s t:SubD} (h:¬ t.state=3):p6 s true t=false:=by simp [p6,h]
theorem FT {s t:SubD} {on:Bool} (h1:t.road.own=s.road.far/\t.road.far=s.road.own/\t.road.port=s.road.port) (h2:t.take=s.give) (h3:t.give=s.take) (h4:on=false\/t.state=3):p6 s on t=true:=by
 rw [p6]
 obtain⟨a,b,c⟩:=h1
 rcases h4 with h4|h4<;>simp [a,b,c,h2,h3,h4]
theorem FD (r:RoadD):aP 182 [.ag r.cs] [] (.ag (RoadD.cs ⟨r.far,r.own,r.port⟩)) []:=by
 refine qE Tryz.func182 Tryz.ntmps182 Tryz.results182 fun E hE=>?_
 exact qF []
theorem FE (r:RoadD):aP 79 [.ag r.cs] [] (.ag (RoadD.cs ⟨r.far,r.own,r.port⟩)) []:=by
 refine qE Tryz.func79 Tryz.ntmps79 Tryz.results79 fun E hE=>?_
 exact qF []
theorem FU (s:SubD) (b:EndD) (on:Bool) (hl:b.subs.length<=1048576):aP 102 [.ag s.cs,.ag (b.cs 0),.sc (.bo on)] (b.hp false) (.sc (.bo (np b.subs on s))) (b.hp false):=by
 refine qE Tryz.func102 Tryz.ntmps102 Tryz.results102 fun E hE=>?_
 refine jx 7 hE (fun s (k:Nat)=>s.at (qU [0,2,4,1,6,1,8,2,13,33]) [(12,.sc (.int .i64 (k:Nat)))] (s.hp)) (fun (k:Nat)=>k<=b.subs.length/\(b.subs.drop k).any (p6 s on)=np b.subs on s) (fun (k:Nat)=>b.subs.length - k) 0 (qI 0 9) (⟨Nat.zero_le _,rfl⟩) fun k hk N hN=>?_
 obtain⟨hk1,hk2⟩:=hk
 refine qR ?_
 refine qB (fun h=>?_) fun h=>?_
 ·rw [fM h] at hk2
  refine qD [0,1,2,3,4,5,6,7,8,9,10,11,12,13,14,15,16,17,18,19,20,21,22,23,24,25,26,27,28] ?_
  refine aQ (FD s.road) [] ?_
  refine qB (fun h2=>?_) fun h2=>?_
  ·refine qB (fun h3=>?_) fun h3=>?_
   ·refine qB (fun h4=>?_) fun h4=>?_
    ·cases on with
     |true=>
      refine qX ?_
      refine qG ?_
      refine qB (fun h5=>?_) fun h5=>?_
      ·rw [FT h2 h3 h4 (.inr h5)] at hk2
       refine qJ (qI 0 7) ?_
       exact hk2
      rw [Ht h5] at hk2
      exact qN hN (k+1) (qI 0 9) (by (try dsimp only);exact⟨by omega,hk2⟩)
     |false=>
      rw [FT h2 h3 h4 (.inl rfl)] at hk2
      refine qX ?_
      refine qG ?_
      refine qJ (qI 0 7) ?_
      exact hk2
    rw [Gh h4] at hk2
    refine qG ?_
    exact qN hN (k+1) (qI 0 9) (by (try dsimp only);exact⟨by omega,hk2⟩)
   rw [Gg h3] at hk2
   refine qG ?_
   exact qN hN (k+1) (qI 0 9) (by (try dsimp only);exact⟨by omega,hk2⟩)
  rw [Gf h2] at hk2
  refine qG ?_
  exact qN hN (k+1) (qI 0 9) (by (try dsimp only);exact⟨by omega,hk2⟩)
 rw [fu (by omega)] at hk2
 refine qJ (qI 0 7) ?_
 exact hk2
theorem EZ (a b:EndD) (h1:a.subs.length<=1048576) (h2:b.subs.length<=1048576):aP 90 [.ag (a.cs 0),.ag (b.cs 7)] (a.hp false++b.hp false) (.sc (.bo (p7 a b))) (a.hp false++b.hp false):=by
 have hon:=pO a.subs
 refine qE Tryz.func90 Tryz.ntmps90 Tryz.results90 fun E hE=>?_
 refine qK (m2 a h1) (qI 0 7) ?_
 refine jx 14 hE (fun s (k:Nat)=>s.at (qU [0,2,4,1,6,2,11,12]) [(10,.sc (.int .i64 (k:Nat)))] (s.hp)) (fun (k:Nat)=>k<=(j0 a.subs).length/\((j0 a.subs).drop k).all (fun n=>np b.subs false (aN a.subs n))=p7 a b) (fun (k:Nat)=>(j0 a.subs).length - k) 0 (qI 0 17) (⟨Nat.zero_le _,HW⟩) fun k hk N hN=>?_
 obtain⟨hk1,hk2⟩:=hk
 refine qR ?_
 refine qB (fun h=>?_) fun h=>?_
 ·rw [yC h] at hk2
  have hlt:=yD h
  rw [ke hlt] at hk2
  refine qX ?_
  refine qD [0,1,2,3,4,5,6,7] ?_
  refine aQ (FU a.subs[(j0 a.subs)[k]] b false h2) (qI 7 7) ?_
  refine qG ?_
  refine qB (fun h3=>?_) fun h3=>?_
  ·rw [h3] at hk2
   refine qJ (qI 0 14) ?_
   exact hk2
  rw [h3] at hk2
  exact qN hN (k+1) (qI 0 17) (by (try dsimp only);exact⟨by omega,hk2⟩)
 rw [p0 (by omega)] at hk2
 refine qJ (qI 0 14) ?_
 exact hk2
theorem Gi {P:SubD->Bool} {l:List SubD} {k:Nat} {r:Bool} (h:k < l.length) (hr:(false || (l.drop k).any P)=r):(P l[k] || (l.drop (k+1)).any P)=r:=by
 rw [<-hr,fM h,Bool.false_or]
theorem E0 (a b:EndD) (h1:a.subs.length<=1048576) (h2:b.subs.length<=1048576):aP 52 [.ag (a.cs 0),.ag (b.cs 7)] (a.hp false++b.hp false) (.sc (.bo (p7 a b))) (a.hp false++b.hp false):=by
 refine fc Tryz.func52 (by kernel_rfl) rfl fun E hE=>ac 400 ?_
 simp (disch:=omega) only [Tryz.ntmps52,Tryz.results52,go_sem,seval]
 refine gN 14 hE (fun s (k:Nat)=>s.at (qU [0,2,4,1,6,57]) [(5,.sc (.int .i64 (k:Nat)))] (s.hp)) (fun (k:Nat)=>k<=a.subs.length/\(a.subs.drop k).all (fun s=>s.state != 3 || np b.subs false s)=p7 a b) (fun (k:Nat)=>a.subs.length - k) 0 (qI 0 16) (qC) (⟨Nat.zero_le _,rfl⟩) (bw (by rfl) (by rfl) ?_) fun k hk N hN=>?_
 ·try simp (disch:=omega) only [go_sem,seval]
 obtain⟨hk1,hk2⟩:=hk
 refine ac 400 ?_
 try simp (disch:=omega) only [go_sem,seval]
 split<;>rename_i h<;>(try simp only [beq_true,beq_false,Bool.not_eq_true',Bool.not_eq_false'] at h)<;>simp (disch:=omega) only [go_sem,seval,h]<;>(try simp only [decide_eq_true_eq,decide_eq_false_iff_not,beq_iff_eq,beq_eq_false_iff_ne,bne_iff_ne,bne_eq_false_iff_eq,ne_eq,Decidable.not_not,Bool.and_eq_true,Bool.and_eq_false_iff,Bool.or_eq_true,Bool.or_eq_false_iff,Int.ofNat_lt,Int.ofNat_le,Bool.not_eq_eq_eq_not,Bool.not_true,Bool.not_false] at h)<;>try simp (disch:=omega) only [go_sem,seval]
 ·rw [yC h] at hk2
  generalize hR:(a.subs[k].state != 3 || np b.subs false a.subs[k])=r at hk2
  obtain⟨q,hq⟩:∃ q,q=(a.subs[k].state != 3):=⟨_,rfl⟩
  try simp (disch:=omega) only [go_sem,seval]
  try rw [<-hq]
  refine gN 14 hE (fun s (y:Nat×Bool)=>s.at (qU [0,2,9,5,15,47]) [(8,.sc (.int .i64 (y.1:Nat))),(7,.sc (.bo y.2))] (s.hp)) (fun (y:Nat×Bool)=>y.1<=b.subs.length/\(y.2 || (b.subs.drop y.1).any (p6 a.subs[k] false))=r) (fun (y:Nat×Bool)=>b.subs.length - y.1) (0,q) (qI 0 17) (qC) (⟨Nat.zero_le _,by rw [hq];exact hR⟩) (bw (by rfl) (by rfl) ?_) fun y hy N2 hN2=>?_
  ·try simp (disch:=omega) only [go_sem,seval]
   try exact⟨rfl,hq⟩
  obtain⟨j,has⟩:=y
  obtain⟨hy1,hy2⟩:=hy
  dsimp only at hy1 hy2
  refine ac 400 ?_
  cases has with
  |true=>
   rw [Bool.true_or] at hy2
   subst hy2
   have hkk:(true && (List.drop (k+1) a.subs).all fun s=>s.state != 3 || np b.subs false s)=p7 a b:=hk2
   try simp (disch:=omega) only [go_sem,seval]
   split<;>rename_i h4<;>(try simp only [beq_true,beq_false,Bool.not_eq_true',Bool.not_eq_false'] at h4)<;>simp (disch:=omega) only [go_sem,seval,h4]<;>(try simp only [decide_eq_true_eq,decide_eq_false_iff_not,beq_iff_eq,beq_eq_false_iff_ne,bne_iff_ne,bne_eq_false_iff_eq,ne_eq,Decidable.not_not,Bool.and_eq_true,Bool.and_eq_false_iff,Bool.or_eq_true,Bool.or_eq_false_iff,Int.ofNat_lt,Int.ofNat_le,Bool.not_eq_eq_eq_not,Bool.not_true,Bool.not_false] at h4)<;>try simp (disch:=omega) only [go_sem,seval]
   ·refine⟨qC,hN _ (k+1) (qI 0 16) (by (try dsimp only);exact⟨by omega,hkk⟩) (by (try dsimp only);omega) (bw (by rfl) (by rfl) ?_)⟩
    try simp (disch:=omega) only [go_sem,seval]
   refine⟨qC,hN _ (k+1) (qI 0 16) (by (try dsimp only);exact⟨by omega,hkk⟩) (by (try dsimp only);omega) (bw (by rfl) (by rfl) ?_)⟩
   try simp (disch:=omega) only [go_sem,seval]
  |false=>
   try simp (disch:=omega) only [go_sem,seval]
   split<;>rename_i h4<;>(try simp only [beq_true,beq_false,Bool.not_eq_true',Bool.not_eq_false'] at h4)<;>simp (disch:=omega) only [go_sem,seval,h4]<;>(try simp only [decide_eq_true_eq,decide_eq_false_iff_not,beq_iff_eq,beq_eq_false_iff_ne,bne_iff_ne,bne_eq_false_iff_eq,ne_eq,Decidable.not_not,Bool.and_eq_true,Bool.and_eq_false_iff,Bool.or_eq_true,Bool.or_eq_false_iff,Int.ofNat_lt,Int.ofNat_le,Bool.not_eq_eq_eq_not,Bool.not_true,Bool.not_false] at h4)<;>try simp (disch:=omega) only [go_sem,seval]
   ·have hy3:=Gi h4 hy2
    refine iu (qU [0,21]) (by kernel_rfl) (qC) (by kernel_rfl) (aa 400 ?_)
    simp (disch:=omega) only [go_sem,seval]
    refine it (qC) (FE a.subs[k].road) [] qM (by rfl) (by rfl) (aa 400 ?_)
    simp (disch:=omega) only [go_sem,seval]
    split<;>rename_i h5<;>(try simp only [beq_true,beq_false,Bool.not_eq_true',Bool.not_eq_false'] at h5)<;>simp (disch:=omega) only [go_sem,seval,h5]<;>(try simp only [decide_eq_true_eq,decide_eq_false_iff_not,beq_iff_eq,beq_eq_false_iff_ne,bne_iff_ne,bne_eq_false_iff_eq,ne_eq,Decidable.not_not,Bool.and_eq_true,Bool.and_eq_false_iff,Bool.or_eq_true,Bool.or_eq_false_iff,Int.ofNat_lt,Int.ofNat_le,Bool.not_eq_eq_eq_not,Bool.not_true,Bool.not_false] at h5)<;>try simp (disch:=omega) only [go_sem,seval]
    ·split<;>rename_i h6<;>(try simp only [beq_true,beq_false,Bool.not_eq_true',Bool.not_eq_false'] at h6)<;>simp (disch:=omega) only [go_sem,seval,h6]<;>(try simp only [decide_eq_true_eq,decide_eq_false_iff_not,beq_iff_eq,beq_eq_false_iff_ne,bne_iff_ne,bne_eq_false_iff_eq,ne_eq,Decidable.not_not,Bool.and_eq_true,Bool.and_eq_false_iff,Bool.or_eq_true,Bool.or_eq_false_iff,Int.ofNat_lt,Int.ofNat_le,Bool.not_eq_eq_eq_not,Bool.not_true,Bool.not_false] at h6)<;>try simp (disch:=omega) only [go_sem,seval]
     ·refine⟨qC,ac 400 ?_⟩
      try simp (disch:=omega) only [go_sem,seval]
      cases hg:(b.subs[j].give == a.subs[k].take) with
      |true=>
       have hg':b.subs[j].give=a.subs[k].take:=by simpa using hg
       rw [FT h5 h6 hg' (.inl rfl)] at hy3
       try simp (disch:=omega) only [go_sem,seval,hg]
       refine⟨qC,hN2 _ (j+1,true) (qI 0 17) (by (try dsimp only);exact⟨by omega,hy3⟩) (by (try dsimp only);omega) (bw (by rfl) (by rfl) ?_)⟩
       try simp (disch:=omega) only [go_sem,seval,hg]
      |false=>
       have hg':¬ b.subs[j].give=a.subs[k].take:=by simpa using hg
       rw [Gh hg'] at hy3
       try simp (disch:=omega) only [go_sem,seval,hg]
       refine⟨qC,hN2 _ (j+1,false) (qI 0 17) (by (try dsimp only);exact⟨by omega,hy3⟩) (by (try dsimp only);omega) (bw (by rfl) (by rfl) ?_)⟩
       try simp (disch:=omega) only [go_sem,seval,hg]
     rw [Gg h6] at hy3
     refine⟨qC,ac 400 ?_⟩
     try simp (disch:=omega) only [go_sem,seval]
     refine⟨qC,hN2 _ (j+1,false) (qI 0 17) (by (try dsimp only);exact⟨by omega,hy3⟩) (by (try dsimp only);omega) (bw (by rfl) (by rfl) ?_)⟩
     try simp (disch:=omega) only [go_sem,seval]
    rw [Gf h5] at hy3
    refine⟨qC,ac 400 ?_⟩
    try simp (disch:=omega) only [go_sem,seval]
    refine⟨qC,hN2 _ (j+1,false) (qI 0 17) (by (try dsimp only);exact⟨by omega,hy3⟩) (by (try dsimp only);omega) (bw (by rfl) (by rfl) ?_)⟩
    try simp (disch:=omega) only [go_sem,seval]
   rw [fu (by omega)] at hy2
   rw [<-hy2] at hk2
   refine aB (qI 0 14) (qC) _ (by simp only [go_sem];rfl) (by rfl) (by rfl) ?_
   simp (disch:=omega) only [go_sem,seval]
   exact hk2
 rw [p0 (by omega)] at hk2
 refine aB (qI 0 14) (qC) _ (by simp only [go_sem];rfl) (by rfl) (by rfl) ?_
 simp (disch:=omega) only [go_sem,seval]
 exact hk2
theorem E4 (l:List Int) (t:Int) (hl:l.length<=1048576):aP 180 [.sc (.sl 0 0 l.length),.sc (.int .i64 t)] [some ⟨l.map aM,1,3,false,true⟩] (.sc (.int .i64 (vt l t:Nat))) [some ⟨l.map aM,1,3,false,true⟩]:=by
 refine qE Tryz.func180 Tryz.ntmps180 Tryz.results180 fun E hE=>?_
 refine qK (ak _ _ _) [] ?_
 refine qB (fun h1=>?_) fun h1=>?_
 ·refine qB (fun h2=>?_) fun h2=>?_
  ·refine qJ (qI 0 1) ?_
   rw [vt,if_neg (by simp [bj];omega)]
   rfl
  have hm:vt l t=kg l t 0 l:=by rw [vt,if_pos ⟨h1,by omega⟩]
  rw [hm]
  refine qX ?_
  refine jx 1 hE (fun s (x:Nat×Nat)=>s.at (qU [7,53]) [(6,.sc (.int .i64 (x.1:Nat))),(5,.sc (.int .i64 (x.2:Nat)))] (s.hp)) (fun (x:Nat×Nat)=>x.1<=l.length/\x.2<=l.length/\kg l t x.2 (l.drop x.1)=kg l t 0 l) (fun (x:Nat×Nat)=>l.length - x.1) (0,0) (qI 0 1) (⟨Nat.zero_le _,Nat.zero_le _,rfl⟩) fun x hx N hN=>?_
  obtain⟨k,most⟩:=x
  obtain⟨hk1,hk2,hk3⟩:=hx
  dsimp only at hk1 hk2 hk3
  refine qR ?_
  refine qB (fun h3=>?_) fun h3=>?_
  ·rw [Gd h3] at hk3
   refine qX ?_
   refine jx 1 hE (fun s (y:Nat×Nat)=>s.at (qU [9,11,21,37,59,1]) [(8,.sc (.int .i64 (y.1:Nat))),(7,.sc (.int .i64 (y.2:Nat)))] (s.hp)) (fun (y:Nat×Nat)=>y.1<=l.length/\y.2=((l.take y.1).filter fun x=>yE x l[k] t).length) (fun (y:Nat×Nat)=>l.length - y.1) (0,0) (qI 0 1) (⟨Nat.zero_le _,by simp⟩) fun y hy N2 hN2=>?_
   obtain⟨j,n⟩:=y
   obtain⟨hy1,hy2⟩:=hy
   dsimp only at hy1 hy2
   have hn:n<=l.length:=by rw [hy2];exact Fa
   refine qR ?_
   refine qB (fun h4=>?_) fun h4=>?_
   ·have hs:=Ge (p:=fun x=>yE x l[k] t) h4
    refine qD [0,1,2,3,4,5,6,7,8,9,10,11,12,13,14,15,16,17,18,19,20,21,22,23,24] ?_
    refine qB (fun h5=>?_) fun h5=>?_
    ·refine qG ?_
     refine qB (fun h6=>?_) fun h6=>?_
     ·have hp:yE l[j] l[k] t=true:=by simp [yE,h5,h6]
      rw [hp,if_pos rfl,<-hy2] at hs
      exact qN hN2 (j+1,n+1) (qI 0 1) (by (try dsimp only);exact⟨by omega,hs.symm⟩)
     have hp:yE l[j] l[k] t=false:=by simp [yE,h5];omega
     rw [hp,if_neg (by simp),<-hy2] at hs
     exact qN hN2 (j+1,n) (qI 0 1) (by (try dsimp only);exact⟨by omega,hs.symm⟩)
    have hp:yE l[j] l[k] t=false:=by simp [yE];omega
    rw [hp,if_neg (by simp),<-hy2] at hs
    refine qG ?_
    exact qN hN2 (j+1,n) (qI 0 1) (by (try dsimp only);exact⟨by omega,hs.symm⟩)
   have hj:j=l.length:=by omega
   subst hj
   rw [List.take_length] at hy2
   rw [show yF l l[k] t=n from hy2.symm] at hk3
   refine qX ?_
   refine qB (fun h7=>?_) fun h7=>?_
   ·have e:max most n=n:=by omega
    rw [e] at hk3
    exact qN hN (k+1,n) (qI 0 1) (by (try dsimp only);exact⟨by omega,by omega,hk3⟩)
   have e:max most n=most:=by omega
   rw [e] at hk3
   exact qN hN (k+1,most) (qI 0 1) (by (try dsimp only);exact⟨by omega,by omega,hk3⟩)
  rw [List.drop_eq_nil_of_le (by omega),kg] at hk3
  refine qJ (qI 0 1) ?_
  rw [hk3]
 refine qJ (qI 0 1) ?_
 rw [vt,if_neg (by simp [h1])]
 rfl
theorem Gj (b:BucketD) (t:Int):aP 181 [.ag b.cs,.sc (.int .i64 t)] [] (.sc (.int .i64 (zs b t))) []:=by
 refine qE Tryz.func181 Tryz.ntmps181 Tryz.results181 fun E hE=>?_
 refine qK (er b) [] ?_
 refine qB (fun h1=>?_) fun h1=>?_
 ·refine qK (ak _ _ _) [] ?_
  refine qB (fun h2=>?_) fun h2=>?_
  ·refine qJ [] ?_
   simp [zs,h1,h2]
  have h1':=h1
  have h2':=h2
  simp only [bucketOk,bj,Bool.and_eq_true,decide_eq_true_eq] at h1' h2'
  obtain⟨⟨⟨r0,r1⟩,b0,b1⟩,c0,c1⟩:=h1'
  obtain⟨t0,t1⟩:=h2'
  have m0:0<=b.rate*t:=Int.mul_nonneg r0 t0
  have m1:b.rate*t<=100*100000:=Int.mul_le_mul r1 t1 t0 (by omega)
  refine qJ [] ?_
  simp only [zs,h1,h2,Bool.and_self,if_true]
  try rw [ym (n:=b.rate*t) (by omega),ym (by omega)]
 refine qJ [] ?_
 simp [zs,h1]
theorem Fc (r b:Int):aP 98 [.sc (.int .i64 r),.sc (.int .i64 b)] [] (.tu [.ag (BucketD.cs (if bucketOk ⟨r,b,b⟩ then⟨r,b,b⟩ else⟨0,0,0⟩)),.sc (.bo (bucketOk ⟨r,b,b⟩))]) []:=by
 obtain⟨R,hR⟩:∃ R,R=(if bucketOk ⟨r,b,b⟩ then (⟨r,b,b⟩:BucketD) else⟨0,0,0⟩):=⟨_,rfl⟩
 rw [<-hR]
 refine qE Tryz.func98 Tryz.ntmps98 Tryz.results98 fun E hE=>?_
 refine qK (c8 ⟨r,b,b⟩) [] ?_
 refine qB (fun h1=>?_) fun h1=>?_
 ·rw [h1,if_neg (by simp)] at hR
  subst hR
  refine qP [] ?_
  first|exact⟨⟩|exact⟨⟨rfl,rfl,rfl⟩,h1⟩
 rw [h1,if_pos rfl] at hR
 subst hR
 refine qP [] ?_
 first|exact⟨⟩|exact⟨⟨rfl,rfl,rfl⟩,h1⟩
theorem G8 (c:Int) (h:0<=c/\c<=3) (t:Int) (ht:1<=t/\t<=100):zs ⟨1,3,c⟩ t=3+t:=by
 have h1:bucketOk ⟨1,3,c⟩=true:=by simp [bucketOk,bj];omega
 have h2:bj t 0 100000=true:=by simp [bj];omega
 simp only [zs,h1,h2,Bool.and_self,if_true]
 omega
theorem G9 {l:List Int} {n:Int} (h:bj n 1 100=true) (ha:∀ j:Nat,(j:Int)+1<=n->(vt l ((j:Int)+1):Int)<=3+((j:Int)+1)):gated l n=true:=by
 simp only [gated,h,Bool.true_and,List.all_eq_true,List.mem_range,decide_eq_true_eq]
 intro k hk
 have:=ha k (by omega)
 simpa using this
theorem G_ {l:List Int} {n:Int} {j:Nat} (hj:(j:Int)+1<=n) (hb:¬ (vt l ((j:Int)+1):Int)<=3+((j:Int)+1)):gated l n=false:=by
 cases h:gated l n with
 |false=>rfl
 |true=>
  simp only [gated,Bool.and_eq_true,List.all_eq_true,List.mem_range,decide_eq_true_eq] at h
  have:=h.2 j (by omega)
  exact absurd (by simpa using this) hb
theorem Fd (l:List Int) (n:Int) (hl:l.length<=1048576):aP 94 [.sc (.sl 0 0 l.length),.sc (.int .i64 n)] [some ⟨l.map aM,1,3,false,true⟩] (.sc (.bo (gated l n))) [some ⟨l.map aM,1,3,false,true⟩]:=by
 refine qE Tryz.func94 Tryz.ntmps94 Tryz.results94 fun E hE=>?_
 refine qK (ak _ _ _) [] ?_
 refine qB (fun h1=>?_) fun h1=>?_
 ·have hg:gated l n=false:=by simp [gated,h1]
  rw [hg]
  exact qF (qI 0 1)
 have h1':=h1
 simp only [bj,Bool.and_eq_true,decide_eq_true_eq] at h1'
 refine qX ?_
 refine jx 1 hE (fun s (t:Nat)=>s.at (qU [4,1,6,15]) [(5,.sc (.int .i64 (t:Nat)))] (s.hp)) (fun (t:Nat)=>1<=t/\(t:Int)<=n+1/\∀ j:Nat,(j:Int)+1 < t->(vt l ((j:Int)+1):Int)<=3+((j:Int)+1)) (fun (t:Nat)=>n.toNat+1 - t) 1 (qI 0 1) (⟨by decide,by omega,fun j hj=>by omega⟩) fun t ht N hN=>?_
 obtain⟨ht1,ht2,ht3⟩:=ht
 refine qR ?_
 refine qB (fun h2=>?_) fun h2=>?_
 ·refine qK (E4 l t hl) (qI 0 1) ?_
  refine qK (Gj ⟨1,3,0⟩ t) [] ?_
  rw [G8 0 (by omega) t (by omega)]
  refine qX ?_
  obtain⟨j,rfl⟩:∃ j,t=j+1:=⟨t - 1,by omega⟩
  refine qB (fun h3=>?_) fun h3=>?_
  ·refine qJ (qI 0 1) ?_
   rw [G_ (j:=j) (by omega)]
   rw [show ((j:Int)+1)=((j+1:Nat):Int) from by omega]
   omega
  have hr:∀ i:Nat,(i:Int)+1 < ((j+1+1:Nat):Int)->(vt l ((i:Int)+1):Int)<=3+((i:Int)+1):=by
   intro i hi
   rcases (by omega:(i:Int)+1 < ((j+1:Nat):Int)\/i=j) with h|rfl
   ·exact ht3 i h
   rw [show ((i:Int)+1)=((i+1:Nat):Int) from by omega];omega
  exact qN hN (j+1+1) (qI 0 1) (by (try dsimp only);exact⟨by omega,by omega,hr⟩)
 rw [G9 h1 (fun j hj=>ht3 j (by omega))]
 exact qF (qI 0 1)
theorem Ha (e:EndD) (n:Int) (hs:Small e):aP 237 [.ag (e.cs 0),.sc (.int .i64 n)] (e.hp false) (.tu [.ag ((eD e n).1.cs 7),.sc (.sl 14 0 (eD e n).2.length)])
  (e.hp false++((eD e n).1.hp true++[some ⟨(eD e n).2.map LetterD.cs,19,48,true,true⟩])):=by
 have hC:=(qH (jF e))
 have hK:=(qH (ap e))
 have hf:=AD (e:=e) (n:=n)
 have ht:= @AE e n
 have hk:=mA.eq_1 e n
 have hS:=fun r=>a7 e r (by have:=hs.subs;omega)
 rw [gZ] at hk
 generalize eD e n=R at*
 refine qE Tryz.func237 Tryz.ntmps237 Tryz.results237 fun E hE=>?_
 refine qK (hC) (qI 0 7) ?_
 refine qK (hK) (qI 0 7) ?_
 refine qB (fun h1=>?_) fun h1=>?_
 ·refine qB (fun h2=>?_) fun h2=>?_
  ·refine qB (fun h3=>?_) fun h3=>?_
   ·refine qK (Bg _ _ _) [] ?_
    refine qB (fun h4=>?_) fun h4=>?_
    ·refine qB (fun h5=>?_) fun h5=>?_
     ·refine qK (bp e) (qI 0 7) ?_
      refine qB (fun h6=>?_) fun h6=>?_
      ·rw [hf (by rw [hk];first|(simp [h6];done)|(simp [h6];intros;omega))]
       exact qF (qI 0 7++qI 9 7++qO 1)
      obtain⟨a,ha⟩:∃ a,e.own[0]'(by omega)=a:=⟨_,rfl⟩
      have ha2:e.own.getD 0 default=a:=by rw [<-ha,List.getD_eq_getElem?_getD,List.getElem?_eq_getElem (by omega)];rfl
      rw [ha2] at hk
      try simp (disch:=omega) only [go_sem,seval,ha]
      refine qK (hS ⟨a.addr,n,0⟩) (qI 0 7) ?_
      refine qB (fun h7=>?_) fun h7=>?_
      ·rw [hf (by rw [hk];first|(simp [h7];done)|(simp [h7];intros;omega))]
       exact qF (qI 0 7++qI 9 7++qO 1)
      rw [ht (a:=a) (by rw [hk,h1,h4,h6,decide_eq_true (by omega:e.state=0),decide_eq_false (by omega:¬ e.own.length=0),decide_eq_true (by have:=b_ h1;omega:e.subs.length < 8),decide_eq_true (by omega:aU e.subs ⟨a.addr,n,0⟩< 0)];rfl) ha2]
      refine qK (b9 e h6) (qI 9 8) ?_
      refine aO [(6,7)] [(qU [0,9]),[0,1,2,3,4,5,7,6,8]] (by kernel_rfl) (qC) (by kernel_rfl) ?_
      simp only [bm]
      refine⟨aa 400 ?_,aa 400 ?_⟩
      all_goals simp (disch:=omega) only [go_sem,seval]
      all_goals
       refine aQ (a0 ⟨a.addr,n,0⟩ { ah with kind:=1,key:=e.draw,give:=e.draw+2 }) [] ?_
       refine qG ?_
       refine qP (qI 0 7++qI 9 2++qI 19 1++qI 12 4++qI 20 1) ?_
       first|exact⟨⟩|simp [SubD.cs,LetterD.cs,aq,ah]
     rw [hf (by rw [hk];first|(simp [h5];done)|(simp [h5];intros;omega))]
     exact qF (qI 0 7++qI 9 7++qO 1)
    rw [hf (by rw [hk];first|(simp [h4];done)|(simp [h4];intros;omega))]
    exact qF (qI 0 7++qI 9 7++qO 1)
   rw [hf (by rw [hk,decide_eq_true (by omega:e.own.length=0)];simp)]
   exact qF (qI 0 7++qI 9 7++qO 1)
  rw [hf (by rw [hk];first|(simp [h2];done)|(simp [h2];intros;omega))]
  exact qF (qI 0 7++qI 9 7++qO 1)
 rw [hf (by rw [hk];first|(simp [h1];done)|(simp [h1];intros;omega))]
 exact qF (qI 0 7++qI 9 7++qO 1)
theorem Gl {x y:EndD} {l:List LetterD} {k:Nat} (h:k < l.length):gb x (l.drop k) y=gb ((ax y l[k]).2.foldl Ch x) (l.drop (k+1)) (ax y l[k]).1:=by
 rw [List.drop_eq_getElem_cons h];rfl
theorem GG {x y:EndD} {l:List LetterD} {k:Nat} (h:l.length<=k):gb x (l.drop k) y=(x,y):=by
 rw [List.drop_eq_nil_of_le h];rfl
theorem Hb (a b:EndD) (ha:Small a) (hb:Small b):aP 162 [.ag (a.cs 0),.ag (b.cs 7)] (a.hp false++b.hp false) (.tu [.ag ((pX a b).1.cs 14),.ag ((pX a b).2.1.cs 21),.sc (.bo (pX a b).2.2)])
  (a.hp false++(b.hp false++((pX a b).1.hp true++(pX a b).2.1.hp true))):=by
 have hCa:=jF a (by have:=ha.own;omega) (by have:=ha.far;omega) (by have:=ha.subs;omega) (by have:=ha.halfs;omega) (by have:=ha.list;omega) (by have:=ha.done;omega) (by have:=ha.over;omega)
 have hCb:=jF b (by have:=hb.own;omega) (by have:=hb.far;omega) (by have:=hb.subs;omega) (by have:=hb.halfs;omega) (by have:=hb.list;omega) (by have:=hb.done;omega) (by have:=hb.over;omega)
 have h0:= @BR a b
 have ht:= @BS a b
 have hbo:=hb.own
 obtain⟨R,hR⟩:∃ R,R=pX a b:=⟨_,rfl⟩
 rw [<-hR] at h0 ht⊢
 clear hR
 refine gU Tryz.func162 Tryz.ntmps162 Tryz.results162 fun E hE=>?_
 refine qB (fun h1=>?_) fun h1=>?_
 ·rw [h0 (by omega)]
  refine qD [0,2,1,3,4,5,6] ?_
  refine aQ (hCa) (qI 0 7) ?_
  refine aQ (hCb) (qI 7 7) ?_
  refine qG ?_
  exact dk (qI 0 14++qI 18 14)
 obtain⟨d,hd⟩:∃ d,b.own[0]'(by omega)=d:=⟨_,rfl⟩
 have hd2:b.own.getD 0 default=d:=by rw [<-hd,List.getD_eq_getElem?_getD,List.getElem?_eq_getElem (by omega)];rfl
 have hO:=Ha a d.addr ha
 have hx1:=wT a d.addr
 have hxs:=rK (n:=d.addr) ha
 obtain⟨P,hP⟩:∃ P,P=eD a d.addr:=⟨_,rfl⟩
 rw [<-hP] at hO hx1 hxs
 obtain⟨x,L⟩:=P
 dsimp only at hO hx1 hxs
 have ht:=ht (by omega) hd2 hP.symm
 clear hP
 obtain⟨X,Y,hXY⟩:∃ X Y,gb x L b=(X,Y):=⟨_,_,rfl⟩
 rw [hXY] at ht
 dsimp only at ht
 subst ht
 refine qX ?_
 refine cG [(6,10)] [] [(qU [0,13]),(qU [0,6,10,1,6,4,11,2])] 14 hE (fun s=>s.at (qU [26,10]) [(7,.sc (.pt 26 0 0)),(8,.sc (.sl 25 0 L.length))] (s.hp++(x.hp true++[some ⟨L.map LetterD.cs,19,48,true,true⟩,some ⟨[EndD.cs x 18],25,38,true,false⟩]))) (by kernel_rfl) (qC) (by kernel_rfl) ?_ (ac 400 ?_)
 rotate_left
 rotate_right
 simp only [bm]
 refine⟨aa 400 ?_,aa 400 ?_⟩
 ·try simp (disch:=omega) only [go_sem,seval,hd]
  refine aQ (hO) (qI 0 7) ?_
  refine⟨qC,(qI 0 27),ab (by rfl) (by rfl) ?_⟩
  try simp (disch:=omega) only [go_sem,seval]
 ·try simp (disch:=omega) only [go_sem,seval,hd]
  refine aQ (hO) (qI 0 7) ?_
  refine⟨qC,(qI 0 18++qI 19 8++qI 18 1),ab (by rfl) (by rfl) ?_⟩
  try simp (disch:=omega) only [go_sem,seval]
 refine qX ?_
 refine qK (hCb) (qI 7 7) ?_
 refine qX ?_
 refine tD 14 hE (fun s (y:Nat×EndD×EndD)=>s.at (qU [0,4,8,1,11,3,15,23,41,25]) [(40,.sc (.int .i64 (y.1:Nat)))] ((s.hp.take 18)++(y.2.1.hp true++(((s.hp.drop 25).take 1)++(some ⟨[EndD.cs y.2.1 18],25,38,true,false⟩::(y.2.2.hp true++[some ⟨[EndD.cs y.2.2 27],25,38,true,false⟩])))))) (fun (y:Nat×EndD×EndD)=>y.1<=L.length/\Small y.2.1/\Small y.2.2/\gb y.2.1 (L.drop y.1) y.2.2=(X,Y)) (fun (y:Nat×EndD×EndD)=>L.length - y.1) (0,x,b) (qI 0 35) (⟨Nat.zero_le _,hxs,hb,hXY⟩) fun y hy N hN=>?_
 obtain⟨k,u,y⟩:=y
 obtain⟨f1,f2,f3,f4⟩:=hy
 dsimp only at f1 f2 f3 f4
 refine qR ?_
 refine qB (fun b1=>?_) fun b1=>?_
 ·have hgl:=aT (enc:=LetterD.cs) b1
  rw [Gl b1] at f4
  have hH:=fn y L[k] f3
  have hHs:=rL (x:=L[k]) f3
  have hH1:=wU (e:=y) (x:=L[k])
  generalize hl0:L[k]=l0 at*
  obtain⟨Q,hQ⟩:∃ Q,Q=ax y l0:=⟨_,rfl⟩
  rw [<-hQ] at hH hHs hH1 f4
  obtain⟨y1,bk⟩:=Q
  dsimp only at hH hHs hH1 f4
  try simp (disch:=omega) only [go_sem,seval,hl0]
  refine qK (hH) (qI 27 7) ?_
  refine qX ?_
  refine tD 14 hE (fun s (z:Nat×EndD)=>s.at (qU [0,4,8,1,15,23,42,9,54,12]) [(53,.sc (.int .i64 (z.1:Nat)))] ((s.hp.take 18)++(z.2.hp true++(((s.hp.drop 25).take 1)++(some ⟨[EndD.cs z.2 18],25,38,true,false⟩::s.hp.drop 27))))) (fun (z:Nat×EndD)=>z.1<=bk.length/\Small z.2/\(bk.drop z.1).foldl Ch z.2=bk.foldl Ch u) (fun (z:Nat×EndD)=>bk.length - z.1) (0,u) (qI 0 45) (⟨Nat.zero_le _,f2,rfl⟩) fun z hz N2 hN2=>?_
  obtain⟨j,v⟩:=z
  obtain⟨q1,q2,q3⟩:=hz
  dsimp only at q1 q2 q3
  refine qR ?_
  refine qB (fun b2=>?_) fun b2=>?_
  ·have hgm:=aT (enc:=LetterD.cs) b2
   rw [tY b2] at q3
   have hB:=ka v bk[j] q2
   have hBs:=tX (x:=bk[j]) q2
   generalize hm0:bk[j]=m at*
   obtain⟨Q,hQ⟩:∃ Q,Q=aS v m:=⟨_,rfl⟩
   rw [<-hQ] at hB hBs q3
   try simp (disch:=omega) only [go_sem,seval,hm0]
   refine qK (hB) (qI 18 7) ?_
   refine qX ?_
   exact Cs hN2 (j+1,Q.1) (qI 0 18++qI 46 7++qI 25 20) (by (try dsimp only);exact⟨by omega,hBs,q3⟩)
  rw [wV (by omega)] at q3
  rw [<-q3] at f4
  refine qX ?_
  exact Cs hN (k+1,v,y1) (qI 0 27++qI 36 7++qI 34 1) (by (try dsimp only);exact⟨by omega,q2,hHs,f4⟩)
 rw [GG (by omega)] at f4
 simp only [Prod.mk.injEq] at f4
 obtain⟨rfl,rfl⟩:=f4
 rcases t6 u y with⟨c1,hm⟩|⟨c1,c2,hm⟩|⟨c1,c2,c3,hm⟩|⟨c1,c2,c3,c4,hm⟩|⟨c1,c2,c3,c4,hm⟩
 all_goals
  rw [hm]
  refine qX ?_
  refine aO [(1,24),(19,24),(19,25),(21,24),(21,25)] [(qU [0,1,2,17,20,1,1,1,19,1,21,6]),(qU [0,1,2,17,20,1,1,1,19,1,24,1,21,3,25,2]),(qU [0,1,2,17,20,1,1,1,19,1,24,2,21,3,26,1]),(qU [0,1,2,17,20,1,1,1,21,1,24,1,19,1,22,2,25,2]),(qU [0,1,2,17,20,1,1,1,24,1,19,1,21,3,25,2]),(qU [0,1,2,17,20,1,1,1,24,1,19,1,25,1,21,3,26,1]),(qU [0,1,2,17,20,1,1,1,21,1,24,2,19,1,22,2,26,1]),(qU [0,1,2,17,20,1,1,1,24,1,21,1,25,1,19,1,22,2,26,1]),(qU [0,1,2,17,20,1,1,1,24,2,19,1,21,3,26,1]),(qU [0,1,2,17,20,1,19,1,21,4,1,1,25,2]),(qU [0,1,2,17,20,1,19,1,24,1,1,1,21,3,25,2]),(qU [0,1,2,17,20,1,19,1,24,1,1,1,25,1,21,3,26,1]),(qU [0,1,2,17,20,2,24,1,1,1,19,1,22,2,25,2]),(qU [0,1,2,17,20,1,24,1,1,1,19,1,21,3,25,2]),(qU [0,1,2,17,20,1,24,1,1,1,19,1,25,1,21,3,26,1]),(qU [0,1,2,17,20,2,24,1,1,1,25,1,19,1,22,2,26,1]),(qU [0,1,2,17,20,1,24,1,1,1,21,1,25,1,19,1,22,2,26,1]),(qU [0,1,2,17,20,1,24,1,1,1,25,1,19,1,21,3,26,1])] (by kernel_rfl) (qC) (by kernel_rfl) ?_
  simp only [bm]
  refine⟨aa 400 ?_,aa 400 ?_,aa 400 ?_,aa 400 ?_,aa 400 ?_,aa 400 ?_,aa 400 ?_,aa 400 ?_,aa 400 ?_,aa 400 ?_,aa 400 ?_,aa 400 ?_,aa 400 ?_,aa 400 ?_,aa 400 ?_,aa 400 ?_,aa 400 ?_,aa 400 ?_⟩
  all_goals simp (disch:=omega) only [go_sem,seval]
  all_goals
   refine qG ?_
   exact dk (qI 0 14++qI 18 7++qI 27 7)
theorem IG {b:List UInt8} {α:Type} [Inhabited α] {C:CurD->α->CurD->Prop} (h:∀ c,c.ok b->∃ x c',C c x c'):∃ F:CurD->α×CurD,∀ c,c.ok b->C c (F c).1 (F c).2:=by
 classical
 refine⟨fun c=>if hc:c.ok b then ((h c hc).choose,(h c hc).choose_spec.choose) else (default,c),fun c hc=>?_⟩
 simp only [dif_pos hc]
 exact (h c hc).choose_spec.choose_spec
def r8 (F:CurD->ActD×CurD):Nat->CurD->List ActD×CurD
 |0,c=>([],c)
 |n+1,c=>((F c).1::(r8 F n (F c).2).1,(r8 F n (F c).2).2)
theorem Gq {b:List UInt8} {F:CurD->ActD×CurD} (hF:∀ c,c.ok b->(F c).2.ok b/\EQ (F c).1):∀ (n:Nat) (c:CurD),c.ok b->(r8 F n c).2.ok b/\(r8 F n c).1.length=n/\∀ a∈(r8 F n c).1,EQ a
 |0,c,h=>⟨h,rfl,fun a ha=>by simp [r8] at ha⟩
 |n+1,c,h=>by
  obtain⟨h1,h2⟩:=hF c h
  obtain⟨h3,h4,h5⟩:=Gq hF n (F c).2 h1
  refine⟨h3,by simp only [r8,List.length_cons,h4],fun a ha=>?_⟩
  simp only [r8,List.mem_cons] at ha
  rcases ha with rfl|ha
  ·exact h2
  exact h5 a ha
theorem F7 (b:List UInt8) (c:CurD) (hc:c.ok b) (m:Int) (hm:1<=m/\m<=120):∃ (l:List ActD) (c':CurD),c'.ok b/\l.length<=120/\(∀ a∈l,EQ a)/\aP 84 [.sc (.pt 1 0 0),.sc (.int .i64 m)] (c.hp b) (.sc (.sl 2 0 l.length)) (c'.hp b++[some ⟨l.map ActD.cs,28,113,true,true⟩]):=by
 obtain⟨F,hF⟩:=IG (b:=b) (Bi b)
 have h1:=ai b c hc m
 have o1:=CurD.below_ok hc m
 have b1:=c.below_lt b (n:=m) (by omega)
 generalize c.below b m=r1 at h1 o1 b1
 obtain⟨v,c1⟩:=r1
 dsimp only at h1 o1 b1
 obtain⟨n,rfl⟩:=Int.eq_ofNat_of_zero_le b1.1
 obtain⟨q1,q2,q3⟩:=Gq (F:=F) (fun c h=>⟨(hF c h).1,(hF c h).2.1⟩) n c1 o1
 obtain⟨R,hR⟩:∃ R,R=r8 F n c1:=⟨_,rfl⟩
 rw [<-hR] at q1 q2 q3
 refine⟨R.1,R.2,q1,by omega,q3,?_⟩
 refine qE Tryz.func84 Tryz.ntmps84 Tryz.results84 fun E hE=>?_
 refine qK (h1) (qI 0 2) ?_
 refine jx 2 hE (fun s (y:List ActD×CurD)=>s.at (qU [1,1,8,14]) [(7,.sc (.int .i64 (y.1.length:Nat))),(5,.sc (.sl 2 0 y.1.length))] (y.2.hp b++[some ⟨y.1.map ActD.cs,28,113,true,true⟩])) (fun (y:List ActD×CurD)=>y.1.length<=n/\y.2.ok b/\(y.1++(r8 F (n - y.1.length) y.2).1,(r8 F (n - y.1.length) y.2).2)=R) (fun (y:List ActD×CurD)=>n - y.1.length) ([],c1) (qI 0 3) (⟨Nat.zero_le _,o1,hR.symm⟩) fun y hy N hN=>?_
 obtain⟨acc,c2⟩:=y
 obtain⟨f1,f2,f3⟩:=hy
 dsimp only at f1 f2 f3
 obtain⟨k1,k2,k3⟩:=hF c2 f2
 refine qR ?_
 refine qB (fun h=>?_) fun h=>?_
 ·rw [show n - acc.length=(n - (acc.length+1))+1 from by omega,r8] at f3
  generalize F c2=z at k1 k2 k3 f3
  obtain⟨a,c3⟩:=z
  dsimp only at k1 k2 k3 f3
  refine qK (k3) (qI 0 2) ?_
  refine⟨qC,hN _ (acc++[a],c3) (qI 0 2++qI 4 1) (by (try dsimp only);exact⟨by simp;omega,k1,by rw [List.length_append,List.length_singleton,List.append_assoc];exact f3⟩) (by simp;omega) (bw (by rfl) (by rfl) ?_)⟩
  try simp (disch:=omega) only [go_sem,seval]
  try simp [ActD.cs]
 rw [show n - acc.length=0 from by omega] at f3
 simp only [r8,List.append_nil] at f3
 subst f3
 exact qF (qI 0 3)
theorem E1 (who n:Int) (p:PolicyD):aP 161 [.sc (.int .i64 who),.sc (.int .i64 n),.ag p.cs] [] (.tu [.ag ((i3 who n p).1.cs 0),.sc (.bo (i3 who n p).2)]) ((i3 who n p).1.hp true):=by
 have hA:=da (eK n) (by simp [eK])
 have hB:=Fc 1 3
 rw [yT,if_pos rfl] at hB
 have hf:= @yU who n p
 have ht:= @yV who n p
 have hl:(eK n).length=1:=rfl
 have hcs:(eK n).map AddrD.cs=[AddrD.cs ⟨0,n,false,true⟩]:=rfl
 rw [hl,hcs] at hA
 generalize i3 who n p=R at*
 refine qE Tryz.func161 Tryz.ntmps161 Tryz.results161 fun E hE=>?_
 refine qK (Bg _ _ _) [] ?_
 refine qB (fun h1=>?_) fun h1=>?_
 ·refine qK (d5 p) [] ?_
  refine qB (fun h2=>?_) fun h2=>?_
  ·refine qK (hA) (qI 2 1) ?_
   refine qB (fun h3=>?_) fun h3=>?_
   ·rw [hf (by simp [h3])]
    refine qJ (qO 7) ?_
    simp [dw]
   rw [ht (by simp [h1,h2,h3])]
   simp only [bj,Bool.and_eq_true,decide_eq_true_eq] at h1
   refine qX ?_
   refine qK (hB) [] ?_
   refine qP (qI 2 1++qO 6) ?_
   first|exact⟨⟩|simp [eK,AddrD.cs]
  rw [hf (by simp [h2])]
  refine qX ?_
  refine qJ (qO 7) ?_
  simp [dw]
 rw [hf (by simp [h1])]
 refine qX ?_
 refine qJ (qO 7) ?_
 simp [dw]
theorem tb (t h:List UInt8):aP 25 [.sc (.st t),.sc (.st h)] ([]) (.sc (.bo (Es t h))) ([]):=by
 refine qE Tryz.func25 Tryz.ntmps25 Tryz.results25 fun E hE=>?_
 refine qB (fun h1=>?_) fun h1=>?_
 ·skip
  refine qJ [] ?_
  simp [Es,h1]
 refine qJ [] ?_
 simp [Es,h1]
theorem Fm (w:WorldD) (s1:w.readB.length+w.b.inp.ready.length<=4611686018427387904) (s2:w.readA.length+w.a.inp.ready.length<=4611686018427387904):aP 91 [.ag (w.cs 0)] (w.hp false) (.sc (.bo (la w))) (w.hp false):=by
 refine qE Tryz.func91 Tryz.ntmps91 Tryz.results91 fun E hE=>?_
 refine qK (tb _ _) [] ?_
 refine qB (fun h1=>?_) fun h1=>?_
 ·skip
  refine qK (tb _ _) [] ?_
  refine qJ (qI 0 21) ?_
  simp [la,h1]
 refine qJ (qI 0 21) ?_
 simp [la,h1]
theorem GK (w:WorldD) (a1:w.a.far.length<=1048576) (a2:w.b.own.length<=1048576) (a3:w.b.done.length<=1048576) (b1:w.b.far.length<=1048576) (b2:w.a.own.length<=1048576) (b3:w.a.done.length<=1048576):aP 93 [.ag (w.cs 0)] (w.hp false) (.sc (.bo (v6 w))) (w.hp false):=by
 refine qE Tryz.func93 Tryz.ntmps93 Tryz.results93 fun E hE=>?_
 refine qK (ta w.a w.b a1 a2 a3) (qI 0 14) ?_
 refine qB (fun h1=>?_) fun h1=>?_
 ·skip
  refine qK (ta w.b w.a b1 b2 b3) (qI 7 7++qI 0 7) ?_
  refine qJ (qI 0 21) ?_
  simp [v6,h1]
 refine qJ (qI 0 21) ?_
 simp [v6,h1]
theorem tk (t h:List UInt8):aP 117 [.sc (.st t),.sc (.st h)] ([]) (.sc (.bo (Es t h))) ([]):=by
 refine qE Tryz.func117 Tryz.ntmps117 Tryz.results117 fun E hE=>?_
 refine qB (fun h1=>?_) fun h1=>?_
 ·skip
  refine qJ [] ?_
  simp [Es,h1]
 refine qJ [] ?_
 simp [Es,h1]
theorem Fn (w:WorldD) (s1:w.readB.length+w.b.inp.ready.length<=4611686018427387904) (s2:w.readA.length+w.a.inp.ready.length<=4611686018427387904):aP 53 [.ag (w.cs 0)] (w.hp false) (.sc (.bo (la w))) (w.hp false):=by
 refine qE Tryz.func53 Tryz.ntmps53 Tryz.results53 fun E hE=>?_
 refine qK (tk _ _) [] ?_
 refine qB (fun h1=>?_) fun h1=>?_
 ·skip
  refine qK (tk _ _) [] ?_
  refine qJ (qI 0 21) ?_
  simp [la,h1]
 refine qJ (qI 0 21) ?_
 simp [la,h1]
theorem GL (w:WorldD) (a1:w.a.far.length<=1048576) (a2:w.b.own.length<=1048576) (a3:w.b.done.length<=1048576) (b1:w.b.far.length<=1048576) (b2:w.a.own.length<=1048576) (b3:w.a.done.length<=1048576):aP 55 [.ag (w.cs 0)] (w.hp false) (.sc (.bo (v6 w))) (w.hp false):=by
 refine qE Tryz.func55 Tryz.ntmps55 Tryz.results55 fun E hE=>?_
 refine qK (EY w.a w.b a1 a2 a3) (qI 0 14) ?_
 refine qB (fun h1=>?_) fun h1=>?_
 ·skip
  refine qK (EY w.b w.a b1 b2 b3) (qI 7 7++qI 0 7) ?_
  refine qJ (qI 0 21) ?_
  simp [v6,h1]
 refine qJ (qI 0 21) ?_
 simp [v6,h1]
theorem E5 (w:WorldD) (a:w.answersA.length<=1048576) (b:w.answersB.length<=1048576) (c1:w.a.halfs.length<=1048576) (c2:w.a.subs.length<=1048576) (d1:w.b.halfs.length<=1048576) (d2:w.b.subs.length<=1048576):aP 34 [.ag (w.cs 0)] (w.hp false) (.sc (.bo (ek w))) (w.hp false):=by
 refine qE Tryz.func34 Tryz.ntmps34 Tryz.results34 fun E hE=>?_
 refine qK (Fd w.answersA 20 a) (qI 19 1) ?_
 refine qB (fun h1=>?_) fun h1=>?_
 ·skip
  refine qK (Fd w.answersB 20 b) (qI 20 1) ?_
  refine qB (fun h2=>?_) fun h2=>?_
  ·skip
   refine qK (Fb w.a c1) (qI 0 7) ?_
   refine qB (fun h3=>?_) fun h3=>?_
   ·skip
    refine qK (Fb w.b d1) (qI 7 7) ?_
    refine qB (fun h4=>?_) fun h4=>?_
    ·skip
     refine qB (fun h5=>?_) fun h5=>?_
     ·skip
      refine qB (fun h6=>?_) fun h6=>?_
      ·skip
       refine qB (fun h7=>?_) fun h7=>?_
       ·skip
        refine qJ (qI 0 21) ?_
        simp [ek,modest,h1,h2,h3,h4,h5,h6,h7]
       refine qJ (qI 0 21) ?_
       simp [ek,modest,h1,h2,h3,h4,h5,h6,h7]
      refine qJ (qI 0 21) ?_
      simp [ek,modest,h1,h2,h3,h4,h5,h6]
     refine qJ (qI 0 21) ?_
     simp [ek,modest,h1,h2,h3,h4,h5]
    refine qJ (qI 0 21) ?_
    simp [ek,modest,h1,h2,h3,h4]
   refine qJ (qI 0 21) ?_
   simp [ek,modest,h1,h2,h3]
  refine qJ (qI 0 21) ?_
  simp [ek,modest,h1,h2]
 refine qJ (qI 0 21) ?_
 simp [ek,modest,h1]
def c5 (w:WorldD):Bool:=af w.a && af w.b && p7 w.a w.b && p7 w.b w.a && la w && lb w.a && lb w.b && v6 w
theorem t5 (w:WorldD) (a0:w.a.own.length<=1048576) (a1:w.a.far.length<=1048576) (a2:w.a.subs.length<=1048576) (a3:w.a.halfs.length<=1048576) (a4:w.a.inp.list.length<=1048576) (a5:w.a.done.length<=1048576) (a6:w.a.over.length<=1048576) (b0:w.b.own.length<=1048576) (b1:w.b.far.length<=1048576) (b2:w.b.subs.length<=1048576) (b3:w.b.halfs.length<=1048576) (b4:w.b.inp.list.length<=1048576) (b5:w.b.done.length<=1048576) (b6:w.b.over.length<=1048576) (s1:w.readB.length+w.b.inp.ready.length<=4611686018427387904) (s2:w.readA.length+w.a.inp.ready.length<=4611686018427387904):aP 32 [.ag (w.cs 0)] (w.hp false) (.sc (.bo (c5 w))) (w.hp false):=by
 refine qE Tryz.func32 Tryz.ntmps32 Tryz.results32 fun E hE=>?_
 refine qK (ap w.a a0 a1 a2 a3 a4 a5 a6) (qI 0 7) ?_
 refine qB (fun g0=>?_) fun g0=>?_
 ·skip
  refine qK (ap w.b b0 b1 b2 b3 b4 b5 b6) (qI 7 7) ?_
  refine qB (fun g1=>?_) fun g1=>?_
  ·skip
   refine qK (EZ w.a w.b a2 b2) (qI 0 14) ?_
   refine qB (fun g2=>?_) fun g2=>?_
   ·skip
    refine qK (EZ w.b w.a b2 a2) (qI 7 7++qI 0 7) ?_
    refine qB (fun g3=>?_) fun g3=>?_
    ·skip
     refine qK (Fm w s1 s2) (qI 0 21) ?_
     refine qB (fun g4=>?_) fun g4=>?_
     ·skip
      refine qK (u6 w.a a2) (qI 0 7) ?_
      refine qB (fun g5=>?_) fun g5=>?_
      ·skip
       refine qK (u6 w.b b2) (qI 7 7) ?_
       refine qB (fun g6=>?_) fun g6=>?_
       ·skip
        refine qK (GK w a1 b0 b5 b1 a0 a5) (qI 0 21) ?_
        refine qJ (qI 0 21) ?_
        simp [c5,g0,g1,g2,g3,g4,g5,g6]
       refine qJ (qI 0 21) ?_
       simp [c5,g6]
      refine qJ (qI 0 21) ?_
      simp [c5,g5]
     refine qJ (qI 0 21) ?_
     simp [c5,g4]
    refine qJ (qI 0 21) ?_
    simp [c5,g3]
   refine qJ (qI 0 21) ?_
   simp [c5,g2]
  refine qJ (qI 0 21) ?_
  simp [c5,g1]
 refine qJ (qI 0 21) ?_
 simp [c5,g0]
theorem Fo (w:WorldD) (a0:w.a.own.length<=1048576) (a1:w.a.far.length<=1048576) (a2:w.a.subs.length<=1048576) (a3:w.a.halfs.length<=1048576) (a4:w.a.inp.list.length<=1048576) (a5:w.a.done.length<=1048576) (a6:w.a.over.length<=1048576) (b0:w.b.own.length<=1048576) (b1:w.b.far.length<=1048576) (b2:w.b.subs.length<=1048576) (b3:w.b.halfs.length<=1048576) (b4:w.b.inp.list.length<=1048576) (b5:w.b.done.length<=1048576) (b6:w.b.over.length<=1048576) (s1:w.readB.length+w.b.inp.ready.length<=4611686018427387904) (s2:w.readA.length+w.a.inp.ready.length<=4611686018427387904):aP 11 [.ag (w.cs 0)] (w.hp false) (.sc (.bo (c5 w))) (w.hp false):=by
 refine qE Tryz.func11 Tryz.ntmps11 Tryz.results11 fun E hE=>?_
 refine qK (au w.a a0 a1 a2 a3 a4 a5 a6) (qI 0 7) ?_
 refine qB (fun g0=>?_) fun g0=>?_
 ·skip
  refine qK (au w.b b0 b1 b2 b3 b4 b5 b6) (qI 7 7) ?_
  refine qB (fun g1=>?_) fun g1=>?_
  ·skip
   refine qK (E0 w.a w.b a2 b2) (qI 0 14) ?_
   refine qB (fun g2=>?_) fun g2=>?_
   ·skip
    refine qK (E0 w.b w.a b2 a2) (qI 7 7++qI 0 7) ?_
    refine qB (fun g3=>?_) fun g3=>?_
    ·skip
     refine qK (Fn w s1 s2) (qI 0 21) ?_
     refine qB (fun g4=>?_) fun g4=>?_
     ·skip
      refine qK (u8 w.a a2) (qI 0 7) ?_
      refine qB (fun g5=>?_) fun g5=>?_
      ·skip
       refine qK (u8 w.b b2) (qI 7 7) ?_
       refine qB (fun g6=>?_) fun g6=>?_
       ·skip
        refine qK (GL w a1 b0 b5 b1 a0 a5) (qI 0 21) ?_
        refine qJ (qI 0 21) ?_
        simp [c5,g0,g1,g2,g3,g4,g5,g6]
       refine qJ (qI 0 21) ?_
       simp [c5,g6]
      refine qJ (qI 0 21) ?_
      simp [c5,g5]
     refine qJ (qI 0 21) ?_
     simp [c5,g4]
    refine qJ (qI 0 21) ?_
    simp [c5,g3]
   refine qJ (qI 0 21) ?_
   simp [c5,g2]
  refine qJ (qI 0 21) ?_
  simp [c5,g1]
 refine qJ (qI 0 21) ?_
 simp [c5,g0]
theorem Fp {l:List Int} {t B:Int}:∀ {m:List Int} {k:Nat},(k:Int)<=B->(∀ f∈m,(yF l f t:Int)<=B)->(kg l t k m:Int)<=B
 |[],k,h,_=>h
 |f::r,k,h,hm=>by
  rw [kg]
  exact Fp (by have:=hm f (by simp);omega) fun g hg=>hm g (by simp [hg])
theorem AnsI.most {l:List Int} {e:EndD} (h:AnsI l e) {t:Int} (ht:1<=t/\t<=1000):(vt l t:Int)<=3+t:=by
 rw [vt];split
 ·refine Fp (by omega) fun f hf=>?_
  have hb:=h.big f hf
  have hn:=h.t f hf
  rw [vO h.big hb ht]
  by_cases hg:f+t - 1<=e.now
  ·have:=h.j f (f+t - 1) (by omega) hg;omega
  rw [vN (g:=e.now) (fun x hx=>(h.t x hx).2) (by omega)]
  have:=h.j f e.now (by omega) (by omega)
  omega
 omega
theorem AnsI.gated {l:List Int} {e:EndD} (h:AnsI l e) {t:Int} (ht:1<=t/\t<=100):gated l t=true:=by
 rw [Go.Proofs.YtjghbknhneffjaaGreat.gated,Bool.and_eq_true]
 refine⟨by simp only [bj,Bool.and_eq_true,decide_eq_true_eq];exact ht,?_⟩
 rw [List.all_eq_true]
 intro k hk
 rw [List.mem_range] at hk
 rw [decide_eq_true_eq]
 exact h.most (by omega)
theorem YoungE.modest {e:EndD} (h:YoungE e):modest e=true:=by
 rw [Go.Proofs.YtjghbknhneffjaaGreat.modest,h.fresh,decide_eq_true (by have:=h.few;omega),decide_eq_true (by have:=h.subs;omega)];rfl
theorem AnsW.gatedW {w:WorldD} (h:AnsW w):ek w=true:=by
 rw [ek,h.a.gated (by omega),h.b.gated (by omega),h.a.y.modest,h.b.y.modest];rfl
structure Inv (w:WorldD):Prop where
 c:Core w
 bag:∀ x∈w.bag,LetI w x
 past:∀ x∈w.past,LetI w x
theorem Gv {l:List SubD} (h:l.Pairwise fun s t=>¬ s.take=t.take) {s t:SubD} (hs:s∈l) (ht:t∈l) (e:s.take=t.take):s=t:=by
 obtain⟨i,hi,rfl⟩:=List.getElem_of_mem hs
 obtain⟨j,hj,rfl⟩:=List.getElem_of_mem ht
 rw [List.pairwise_iff_getElem] at h
 rcases Nat.lt_trichotomy i j with hl|hl|hl
 ·exact absurd e (h i j hi hj hl)
 ·subst hl;rfl
 exact absurd e.symm (h j i hj hi hl)
theorem Fv {l:List Int} {n m:Int} (h:m∈cP l n):m=n/\0 < n\/m∈l:=by
 rw [cP] at h;split at h
 ·rename_i hc
  rcases List.mem_append.1 h with h|h
  ·exact .inr h
  exact .inl ⟨List.mem_singleton.1 h,hc.1⟩
 exact .inr h
theorem sp {l:List Int} {n m:Int} (h:m∈l):m∈cP l n:=by
 rw [cP];split
 ·exact List.mem_append_left _ h
 exact h
theorem Hk {w:WorldD} {x:LetterD} (h:sideAt x.to=0):LetI w x:=by
 constructor<;>(intro h1;omega)
theorem Post.let {w:WorldD} {x:LetterD} (h:Post w x):LetI w x:=h.some.elim Hk id
theorem E8 {w w':WorldD} (ha:w'.a=w.a) (hb:w'.b=w.b) (hn:∀ n∈w.nums,n∈w'.nums) (h1:w'.wroteA=w.wroteA) (h2:w'.wroteB=w.wroteB):Le w w':=by
 refine⟨by rw [ha],by rw [hb],hn,fun s hs=>⟨s,by rw [ha];exact hs,SubTo.refl s⟩,fun t ht=>⟨t,by rw [hb];exact ht,rfl⟩,by rw [hb];exact Int.le_refl _,fun h hh=>.inr ⟨h,by rw [hb] at hh;exact hh,rfl,rfl,rfl,rfl⟩,fun i d h=>by rw [ha];exact h,fun i d h=>by rw [hb];exact h,⟨[],by rw [h1,List.append_nil]⟩,⟨[],by rw [h2,List.append_nil]⟩⟩
theorem GO {k:KnownD} {t u:TagD} (h:u∈(ez k t).tags):u=t\/u∈k.tags:=by
 rw [ez] at h;split at h
 ·rcases List.mem_append.1 h with h|h
  ·exact .inr h
  exact .inl (List.mem_singleton.1 h)
 exact .inr h
theorem Fw {w:WorldD} {side:Int} {x:LetterD} (h:Core w):Core (mU side w x):=⟨h.oka,h.okb,h.sta,h.stb,h.sia,h.sib,h.ka,h.kb,h.kk,h.pa,h.pb,h.keys,h.tags,h.da,h.db,h.nn,h.sa,h.sad,h.sb,h.ha,h.hb,h.hbd,h.oa,h.ob,h.fa,h.fb,h.oia,h.oib,h.iia,h.iib⟩
theorem Gw {w:WorldD} {l:List LetterD} (h:Core w):Core { w with bag:=l }:=⟨h.oka,h.okb,h.sta,h.stb,h.sia,h.sib,h.ka,h.kb,h.kk,h.pa,h.pb,h.keys,h.tags,h.da,h.db,h.nn,h.sa,h.sad,h.sb,h.ha,h.hb,h.hbd,h.oa,h.ob,h.fa,h.fb,h.oia,h.oib,h.iia,h.iib⟩
theorem GP {w:WorldD} {x:LetterD} (h:Core w) (F:Free w x):Core (vH w x):=by
 have hn:∀ n∈(vH w x).nums,n=x.nonce\/n=x.give\/n∈w.nums:=by
  intro n hm
  rcases Fv hm with⟨_,h0⟩|hm
  ·rw [F.sgn] at h0;omega
  rcases Fv hm with⟨e,_⟩|hm
  ·exact .inr (.inl e)
  rcases Fv hm with⟨e,_⟩|hm
  ·exact .inl e
  exact .inr (.inr hm)
 have ho:∀ n∈w.nums,n∈(vH w x).nums:=fun n hm=>sp (sp (sp hm))
 refine⟨h.oka,h.okb,h.sta,h.stb,h.sia,h.sib,h.ka,h.kb,h.kk,h.pa,h.pb,?_,?_,h.da,h.db,?_,?_,h.sad,?_,?_,?_,h.hbd,h.oa,h.ob,h.fa,h.fb,h.oia,h.oib,h.iia,h.iib⟩
 ·rw [vH,i4];exact h.keys
 ·intro u hu
  rcases GO hu with rfl|hu
  ·exact⟨F.kind,F.th.mono ho⟩
  exact⟨(h.tags u hu).1,(h.tags u hu).2.mono ho⟩
 ·intro n hm
  rcases hn n hm with e|e|e
  ·exact F.nn n (.inl e)
  ·exact F.nn n (.inr e)
  exact h.nn n e
 ·intro s hs
  have S:=h.sa s hs
  obtain⟨f1,f2,f3⟩:=F.sa s hs
  refine⟨S.t4,fun hc=>?_,?_,S.own,S.far,S.th,S.on,S.ask⟩
  ·rcases hn _ hc with e|e|e
   ·exact f2 e
   ·exact f1 e
   exact S.tn e
  rcases S.mine with m|⟨m1,m2⟩
  ·exact .inl m
  rcases f3 with f3|⟨f3,f4⟩
  ·exact .inl f3
  refine .inr ⟨m1,fun hc=>?_⟩
  rcases hn _ hc with e|e|e
  ·exact f3 e
  ·exact f4 e
  exact m2 e
 ·intro t ht
  have S:=h.sb t ht
  obtain⟨f1,f2⟩:=F.sb t ht
  refine⟨S.t4,fun hc=>?_,S.st,S.like⟩
  rcases hn _ hc with e|e|e
  ·exact f2 e
  ·exact f1 e
  exact S.tn e
 ·intro k hk
  have S:=h.ha k hk
  exact⟨S.m4,S.sep,S.th.mono ho⟩
 intro k hk
 have S:=h.hb k hk
 refine⟨S.m4,S.sep,?_⟩
 rcases S.th with q|⟨q1,q2⟩
 ·exact .inl (q.mono ho)
 by_cases hf:k.take=x.give\/k.take=x.nonce
 ·exact .inl ((F.hb k hk hf).mono ho)
 refine .inr ⟨fun hc=>?_,q2⟩
 rcases hn _ hc with e|e|e
 ·exact hf (.inr e)
 ·exact hf (.inl e)
 exact q1 e
theorem Hl {w:WorldD} {side:Int} {x:LetterD} (h:Inv w) (P:Post w x):Inv (cn side w x)/\Le w (cn side w x)/\(cn side w x).a=w.a/\(cn side w x).b=w.b:=by
 obtain⟨e1,e2,e3,e4,_,_⟩:=gm (side:=side) (w:=w) (x:=x)
 have hpast:∀ y∈mS w.past x,y=x\/y∈w.past:=by
  intro y hy
  rw [mS] at hy;split at hy
  ·rcases List.mem_append.1 hy with hy|hy
   ·exact .inr hy
   exact .inl (List.mem_singleton.1 hy)
  exact .inr hy
 have hbag:∀ y∈ut w.bag x,y=x\/y∈w.bag:=by
  intro y hy
  rw [ut] at hy;split at hy
  ·rcases List.mem_append.1 hy with hy|hy
   ·exact .inr hy
   exact .inl (List.mem_singleton.1 hy)
  exact .inr hy
 have hL:=P.let
 by_cases h0:sideAt x.to=0
 ·have hl:Le w (cn side w x):=E8 e1 e2 (by rw [cn,if_pos h0];exact fun n hm=>sp (sp (sp hm))) e3 e4
  refine⟨?_,hl,e1,e2⟩
  have hc:=GP (w:=mU side w x) (x:=x) (Fw h.c) ⟨(P.none h0).kind,(P.none h0).th,(P.none h0).sgn,(P.none h0).sa,(P.none h0).sb,(P.none h0).hb,(P.none h0).pos,(P.none h0).nn⟩
  refine⟨by rw [cn,if_pos h0];exact hc,fun y hy=>?_,fun y hy=>?_⟩
  ·rw [cn,if_pos h0] at hy
   exact (h.bag y hy).mono hl
  rw [cn,if_pos h0] at hy
  rcases hpast y hy with rfl|hy
  ·exact hL.mono hl
  exact (h.past y hy).mono hl
 have hl:Le w (cn side w x):=E8 e1 e2 (by rw [cn,if_neg h0];exact fun n hm=>hm) e3 e4
 refine⟨?_,hl,e1,e2⟩
 refine⟨by rw [cn,if_neg h0];exact Gw (Fw h.c),fun y hy=>?_,fun y hy=>?_⟩
 ·rw [cn,if_neg h0] at hy
  rcases hbag y hy with rfl|hy
  ·exact hL.mono hl
  exact (h.bag y hy).mono hl
 rw [cn,if_neg h0] at hy
 rcases hpast y hy with rfl|hy
 ·exact hL.mono hl
 exact (h.past y hy).mono hl
theorem FP {side:Int}:∀ {l:List LetterD} {w:WorldD},Inv w->(∀ x∈l,Post w x)->Inv (an side w l)
 |[],w,h,_=>h
 |x::l,w,h,P=>by
  obtain⟨h1,h2,h3,h4⟩:=Hl (side:=side) h (P x (by simp))
  exact FP (l:=l) h1 fun y hy=>(P y (by simp [hy])).mono h2 h3 h4
theorem F9 (W:List UInt8) (n k m:Nat):A3 W n k++A3 W (n+k) m=A3 W n (k+m):=by
 rw [A3,A3,A3,List.take_add,List.drop_drop]
theorem HL (W:List UInt8) (n k j:Nat):(A3 W n k).take j=A3 W n (min j k):=by rw [A3,A3,List.take_take]
theorem Gx {W:List UInt8} {a b:PieceD} (ha:Slice W a.pos a.text) (hb:Slice W b.pos b.text) (h1:b.pos<=a.pos+(a.text.length:Int)) (h2:a.pos<=b.pos+(b.text.length:Int)):Slice W (fh a b).pos (fh a b).text:=by
 obtain⟨n,k,e1,e2,e3,e4⟩:=ha.nat
 obtain⟨m,j,f1,f2,f3,f4⟩:=hb.nat
 rw [e3,e1,f1] at h1
 rw [f3,e1,f1] at h2
 rw [fh];split
 ·rename_i hlt
  rw [e1,f1] at hlt
  dsimp only
  rw [e1,f1,e2,f2,A4 e4,show ((n:Int) - (m:Int)).toNat=n - m by omega,HL,zQ,show min (n - m) j=n - m by omega]
  have g:A3 W m (n - m)++A3 W n k++A3 W (m+(n - m+k)) (j - (n - m+k))=A3 W m (n - m+k+(j - (n - m+k))):=by
   have h3:=F9 W m (n - m) k
   rw [show m+(n - m)=n by omega] at h3
   rw [h3,F9]
  rw [g]
  exact xH (by omega)
 rename_i hge
 rw [e1,f1] at hge
 dsimp only
 rw [e1,f1,e2,f2,A4 e4,show ((n:Int)+(k:Int) - (m:Int)).toNat=n+k - m by omega,zQ,show m+(n+k - m)=n+k by omega,F9]
 exact xH (by omega)
structure PpW (W:List UInt8) (g:PpS):Prop where
 own:Slice W g.own.pos g.own.text
 acc:∀ z∈g.acc,Slice W z.pos z.text
theorem w2 {α:Type} {l:List α} {x:α} {P:α->Prop} (hl:∀ z∈l,P z) (hx:P x):∀ z∈l++[x],P z:=fun z hz=>by
 rcases List.mem_append.1 hz with hz|hz
 ·exact hl z hz
 rw [List.mem_singleton.1 hz];exact hx
theorem HM {W:List UInt8} {g:PpS} {x:PieceD} (h:PpW W g) (hx:Slice W x.pos x.text):PpW W (gh g x):=by
 rw [gh];split
 ·exact⟨h.own,w2 h.acc hx⟩
 split
 ·refine⟨h.own,w2 ?_ hx⟩
  split
  ·exact h.acc
  exact w2 h.acc h.own
 exact⟨Gx hx h.own (by omega) (by omega),h.acc⟩
theorem HN {W:List UInt8}:∀ {l:List PieceD} {g:PpS},PpW W g->(∀ x∈l,Slice W x.pos x.text)->PpW W (mO g l)
 |[],g,h,_=>h
 |x::l,g,h,hl=>HN (l:=l) (HM h (hl x (by simp))) fun y hy=>hl y (by simp [hy])
theorem H1 {W:List UInt8} {g:PpS} (h:PpW W g):∀ z∈iN g,Slice W z.pos z.text:=by
 rw [iN];split
 ·exact h.acc
 exact w2 h.acc h.own
theorem G2 {W R:List UInt8} {p:PiecesD} {n:Int} {t:List UInt8} (h:InI W R p) (F:FineP p) (ht:Slice W n t):InI W R (kW p n t):=by
 have hA:=H1 (HN (l:=p.list) (g:=⟨⟨n,t⟩,false,[]⟩) ⟨ht,fun z hz=>by simp at hz⟩ h.list)
 rw [kW]
 generalize iN (mO ⟨⟨n,t⟩,false,[]⟩ p.list)=l at hA
 rw [iO];split
 ·rw [kV];split
  ·rename_i he
   cases l with
   |nil=>
    obtain⟨T,hT⟩:=h.pre
    have e:(default:PieceD).text=[]:=rfl
    exact⟨h.read,⟨T,by rw [List.headD_nil,e,List.append_nil];exact hT⟩,fun z hz=>by simp at hz⟩
   |cons y r=>
    rw [List.headD_cons] at he⊢
    refine⟨h.read,?_,fun z hz=>hA z (List.mem_cons_of_mem _ hz)⟩
    have hy:=hA y (by simp)
    rw [he,h.next F] at hy
    obtain⟨h1,h2⟩:=pn.1 hy
    obtain⟨T,hT⟩:=h.pre
    have hd:W.drop (R.length+p.ready.length)=T:=by
     rw [hT,List.drop_append_of_le_length (by simp)]
     simp
    refine⟨T.drop y.text.length,?_⟩
    rw [A3,hd] at h2
    dsimp only
    rw [hT]
    have:T=y.text++T.drop y.text.length:=by
     conv=>lhs;rw [<-List.take_append_drop y.text.length T]
     rw [<-h2]
    conv=>lhs;rw [this]
    simp
  exact⟨h.read,h.pre,hA⟩
 exact h
theorem Fx {W R:List UInt8} {p:PiecesD} {n:Int} {t:List UInt8} (h:InI W R p) (hs:SmallP p) (ht:Slice W n t):InI W R (bs p n t):=by
 rw [bs];split
 ·rename_i hk
  simp only [qa,Bool.and_eq_true] at hk
  have F:=dt hk.1.1 hs
  split
  ·exact h
  split
  ·have hd:=ht.drop (d:=(nextOf p - n).toNat) (by omega)
   rw [show n+((nextOf p - n).toNat:Int)=nextOf p by omega] at hd
   exact G2 h F hd
  exact G2 h F ht
 exact h
theorem HO {W R:List UInt8} {p:PiecesD} {m:Int} (h:InI W R p):InI W (R++(bK p m).2) (bK p m).1:=by
 rw [bK];split
 ·obtain⟨T,hT⟩:=h.pre
  refine⟨?_,⟨T,?_⟩,h.list⟩
  ·dsimp only
   rw [h.read]
   have:w9 p m<=p.ready.length:=Nat.min_le_right _ _
   simp only [List.length_append,List.length_take]
   omega
  dsimp only
  rw [hT]
  conv=>lhs;rw [<-List.take_append_drop (w9 p m) p.ready]
  simp
 dsimp only
 rw [List.append_nil];exact h
theorem Gy {W:List UInt8} {o:OutD} {t:List UInt8} (h:OutI W o):OutI (W++t.take (eL o t).2) (eL o t).1:=by
 rw [eL];split
 ·refine⟨⟨h.base.1,?_⟩,?_⟩
  ·have:=h.base.2
   have h2:=vJ o t
   simp only [List.length_append,List.length_take]
   omega
  dsimp only
  have:=h.base
  rw [List.drop_append_of_le_length (by omega),<-h.text]
 dsimp only
 rw [List.take_zero,List.append_nil];exact h
theorem HP {W:List UInt8} {o:OutD} {n:Int} (h:OutI W o):OutI W (nI o n):=by
 rw [nI];split
 ·rename_i hc
  obtain⟨h0,h1,h2⟩:=hc
  have F:=gp h0
  obtain⟨a1,a2,a3,a4⟩:=F
  rw [ym (by omega)] at h2
  have hb:=h.base
  refine⟨⟨by dsimp only;omega,?_⟩,?_⟩
  ·simp only [List.length_drop];omega
  dsimp only
  rw [h.text,List.drop_drop]
  congr 1
  omega
 exact h
theorem Gz {W:List UInt8} {o o':OutD} (h:OutI W o) (h1:o'.base=o.base) (h2:o'.text=o.text):OutI W o':=⟨by rw [h1,h2];exact h.base,by rw [h1,h2];exact h.text⟩
theorem FQ {W:List UInt8} {o:OutD} (h:OutI W o):OutI W (qg o):=by
 rw [qg];split
 ·exact Gz h rfl rfl
 exact h
theorem HQ {W:List UInt8} {o:OutD} (h:OutI W o):OutI W (fi o):=by
 rw [fi];split
 ·exact Gz h rfl rfl
 exact h
theorem w3 {W:List UInt8} {o:OutD} (h:OutI W o) (ho:outOk o=true):Slice W o.sent (cy o):=by
 obtain⟨a1,a2,a3,a4⟩:=gp ho
 obtain⟨n,hn⟩:=Int.eq_ofNat_of_zero_le (show 0<=o.sent by omega)
 have hb:=h.base
 have e:cy o=A3 W n (min 20 (W.length - n)):=by
  rw [cy,h.text,List.drop_drop,A3,show o.base.toNat+(o.sent - o.base).toNat=n by omega]
  rw [List.take_eq_take_iff]
  simp only [List.length_drop]
  omega
 rw [e,hn]
 exact xH (by omega)
end
end Go.Proofs.YtjghbknhneffjaaGreat
