/-
  Texts merged for this claim by shake.py: what its proof needs.
-/
import Derived.Test.YtjghbknhneffjaaGreatZFnBaseL
import Derived.Test.YtjghbknhneffjaaGreatZFnBaseM
import Derived.Test.YtjghbknhneffjaaGreatZFnBaseN
set_option maxHeartbeats 16000000
set_option maxRecDepth 100000
set_option linter.unusedVariables false
set_option linter.unusedSimpArgs false
namespace Go.Proofs.YtjghbknhneffjaaGreat
section
open Go.RowKit
end
section
open Go.RowKit
section
variable {P:Program} {β:Be} {s:S} {a:Act} {w:World} {o:Oper} {r:OpR} {ty:TypeId}
end
end
section
open Go.RowKit
section
variable {P:Program} {β:Be} {s:S} {a:Act} {w:World} {o:Oper} {r:OpR} {ty:TypeId}
end
end
section
open Go.RowKit
end
section
open Go.RowKit
theorem qYq {p:Prop} (e:p:=by simp (disch:=omega) only [go_sem,seval]):p:=e
section
variable {P:Program} {E:Entry} {F:S->Prop} {c q:Prop}
end
end
section
end
section
open Go.RowKit
theorem oT {l:List Int} {k:Nat} (h:k < l.length):(l.map aM)[k]? =some [.int .i64 l[k]]:=by simp [aM,h]
end
section
theorem p0 {α:Type} {p:α->Bool} {l:List α} {k:Nat} (h:l.length<=k):(l.drop k).all p=true:=by
 rw [List.drop_eq_nil_of_le h,List.all_nil]
def c6 (side:Int) (s:SubD):Bool:=sideAt s.road.own == side && sideAt s.road.far == IntKind.i64.wrap (3 - side)
def lb (e:EndD):Bool:=e.subs.all (c6 e.side)
def tS (b:EndD) (f:AddrD):Bool:=fN b.own f.addr || mq b.done f.id
def GF (a b:EndD):Bool:=a.far.all (tS b)
def v6 (w:WorldD):Bool:=GF w.a w.b && GF w.b w.a
def p6 (s:SubD) (on:Bool) (t:SubD):Bool:=(t.road.own == s.road.far && (t.road.far == s.road.own && t.road.port == s.road.port)) && t.take == s.give && t.give == s.take && (!on || t.state == 3)
def np (b:List SubD) (on:Bool) (s:SubD):Bool:=b.any (p6 s on)
def p7 (a b:EndD):Bool:=a.subs.all fun s=>s.state != 3 || np b.subs false s
def la (w:WorldD):Bool:=Es w.wroteA (w.readB++w.b.inp.ready) && Es w.wroteB (w.readA++w.a.inp.ready)
end
section
end
section
theorem a3 {e:EndD} {x:LetterD} (h:¬ (af e=true/\dZ x=true/\0<=cF e x)):¬ 0<=fo e x:=by
 rw [fo]
 split
 ·rename_i hc
  simp only [Bool.and_eq_true] at hc
  exact fun hk=>h ⟨hc.1,hc.2,hk⟩
 omega
theorem ds {e:EndD} {x:LetterD} {n:Nat} (h1:af e=true) (h2:dZ x=true) (h:cF e x=(n:Int)):fo e x=(n:Int):=by
 rw [fo,h1,h2,h]
 rfl
end
section
open Go.RowKit
theorem a4 (l:List Int) (hl:l.length<=1000000):aP 119 [.sc (.sl 0 0 l.length)] [some ⟨l.map aM,1,3,false,true⟩] (.sc (.bo (l.all gA))) [some ⟨l.map aM,1,3,false,true⟩]:=by
 refine qE Tryz.func119 Tryz.ntmps119 Tryz.results119 fun E hE=>?_
 refine gN 1 hE (fun s k=>s.at (qU [4,1,8,7]) [(7,.sc (.int .i64 (k:Nat)))] s.hp) (fun k=>k<=l.length/\l.all gA=(l.drop k).all gA) (fun k=>l.length - k) 0 (qI 0 1) trivial ⟨Nat.zero_le _,by simp⟩ (bw (by rfl) (by rfl) ?_) fun k hk N hN=>?_
 ·exact qYq
 obtain⟨hk1,hk2⟩:=hk
 refine ac 100 ?_
 refine qX ?_
 refine qB (fun h=>?_) fun h=>?_
 ·try simp (disch:=omega) only [go_sem,seval,oT h]
  refine bc (by omega) (Bg _ _ _) [] qM (by rfl) (ac 400 ?_)
  simp (disch:=omega) only [go_sem,seval]
  rw [List.drop_eq_getElem_cons h,List.all_cons] at hk2
  refine qB (fun h2=>?_) fun h2=>?_
  ·refine aB (qI 0 1) (trivial) _ (by simp only [go_sem];rfl) (by rfl) (by rfl) ?_
   simp (disch:=omega) only [go_sem,seval]
   have:gA l[k]=false:=by simp [gA,bj] at h2⊢;omega
   rw [hk2,this,Bool.false_and]
  refine⟨trivial,hN _ (k+1) (qI 0 1) (⟨by omega,?_⟩) (by (try dsimp only);omega) (bw (by rfl) (by rfl) ?_)⟩
  ·have:gA l[k]=true:=by simp [gA,bj] at h2⊢;omega
   rw [hk2,this,Bool.true_and]
  exact qYq
 refine aB (qI 0 1) (trivial) _ (by simp only [go_sem];rfl) (by rfl) (by rfl) ?_
 simp (disch:=omega) only [go_sem,seval]
 rw [hk2,List.drop_eq_nil_of_le (by omega),List.all_nil]
theorem d1 (n:Int):aP 57 [.sc (.int .i64 n)] [] (.sc (.int .i64 (sideAt n))) []:=by
 refine qE Tryz.func57 Tryz.ntmps57 Tryz.results57 fun E hE=>?_
 refine qK (Bg _ _ _) [] ?_
 refine qB (fun h1=>?_) fun h1=>?_
 ·refine qJ [] ?_
  simp [sideAt,h1]
 refine qK (Bg _ _ _) [] ?_
 refine qB (fun h2=>?_) fun h2=>?_
 ·refine qJ [] ?_
  simp [sideAt,h1,h2]
 refine qJ [] ?_
 simp [sideAt,h1,h2]
theorem u8 (e:EndD) (hl:e.subs.length<=1048576):aP 54 [.ag (e.cs 0)] (e.hp false) (.sc (.bo (lb e))) (e.hp false):=by
 refine qE Tryz.func54 Tryz.ntmps54 Tryz.results54 fun E hE=>?_
 refine jx 7 hE (fun s (k:Nat)=>s.at (qU [0,1,2,1,4,29]) [(3,.sc (.int .i64 (k:Nat)))] (s.hp)) (fun (k:Nat)=>k<=e.subs.length/\(e.subs.drop k).all (c6 e.side)=lb e) (fun (k:Nat)=>e.subs.length - k) 0 (qI 0 8) (⟨Nat.zero_le _,rfl⟩) fun k hk N hN=>?_
 obtain⟨hk1,hk2⟩:=hk
 refine qR ?_
 refine qB (fun h=>?_) fun h=>?_
 ·rw [yC h] at hk2
  refine qX ?_
  refine qD [0,1,3,4,2,5,6,7,8,10,11,12,9,13,14] ?_
  refine aQ (cV _) [] ?_
  refine qB (fun h2=>?_) fun h2=>?_
  ·refine aQ (cV _) [] ?_
   refine qG ?_
   refine qB (fun h3=>?_) fun h3=>?_
   ·have hp:c6 e.side e.subs[k]=false:=by simp [c6,h2,h3]
    rw [hp] at hk2
    refine qJ (qI 0 7) ?_
    exact hk2
   have hp:c6 e.side e.subs[k]=true:=by simp [c6,h2,h3]
   rw [hp] at hk2
   exact qN hN (k+1) (qI 0 8) (by (try dsimp only);exact⟨by omega,hk2⟩)
  have hp:c6 e.side e.subs[k]=false:=by simp [c6,h2]
  rw [hp] at hk2
  refine qG ?_
  refine qJ (qI 0 7) ?_
  exact hk2
 rw [p0 (by omega)] at hk2
 refine qJ (qI 0 7) ?_
 exact hk2
theorem cl (e:EndD) (n:Int) (hl:e.own.length<=1048576):aP 124 [.ag (e.cs 0),.sc (.int .i64 n)] (e.hp false) (.sc (.bo (fN e.own n))) (e.hp false):=by
 refine qE Tryz.func124 Tryz.ntmps124 Tryz.results124 fun E hE=>?_
 refine jx 7 hE (fun s (k:Nat)=>s.at (qU [0,1,2,1,4,1,6,2,11,8]) [(10,.sc (.int .i64 (k:Nat)))] (s.hp)) (fun (k:Nat)=>k<=e.own.length/\(e.own.drop k).any (fun a=>a.addr == n)=fN e.own n) (fun (k:Nat)=>e.own.length - k) 0 (qI 0 8) (⟨Nat.zero_le _,rfl⟩) fun k hk N hN=>?_
 obtain⟨hk1,hk2⟩:=hk
 refine qR ?_
 refine qB (fun h=>?_) fun h=>?_
 ·rw [fM h] at hk2
  refine qX ?_
  refine qB (fun h2=>?_) fun h2=>?_
  ·have hp:(e.own[k].addr == n)=true:=by simp [h2]
   rw [hp] at hk2
   refine qJ (qI 0 7) ?_
   exact hk2
  have hp:(e.own[k].addr == n)=false:=by simp [h2]
  rw [hp] at hk2
  exact qN hN (k+1) (qI 0 8) (by (try dsimp only);exact⟨by omega,hk2⟩)
 rw [fu (by omega)] at hk2
 refine qJ (qI 0 7) ?_
 exact hk2
theorem ct (l:List Int) (n:Int) (hl:l.length<=1048576):aP 59 [.sc (.sl 0 0 l.length),.sc (.int .i64 n)] [some ⟨l.map aM,1,3,false,true⟩] (.sc (.bo (mq l n))) [some ⟨l.map aM,1,3,false,true⟩]:=by
 refine qE Tryz.func59 Tryz.ntmps59 Tryz.results59 fun E hE=>?_
 refine jx 1 hE (fun s (k:Nat)=>s.at (qU [0,1,4,1,6,1,10,7]) [(9,.sc (.int .i64 (k:Nat)))] (s.hp)) (fun (k:Nat)=>k<=l.length/\(l.drop k).any (fun a=>a == n)=mq l n) (fun (k:Nat)=>l.length - k) 0 (qI 0 1) (⟨Nat.zero_le _,rfl⟩) fun k hk N hN=>?_
 obtain⟨hk1,hk2⟩:=hk
 refine qR ?_
 refine qB (fun h=>?_) fun h=>?_
 ·rw [fM h] at hk2
  refine qX ?_
  refine qB (fun h2=>?_) fun h2=>?_
  ·have hp:(l[k] == n)=true:=by simp [h2]
   rw [hp] at hk2
   refine qJ (qI 0 1) ?_
   exact hk2
  have hp:(l[k] == n)=false:=by simp [h2]
  rw [hp] at hk2
  exact qN hN (k+1) (qI 0 1) (by (try dsimp only);exact⟨by omega,hk2⟩)
 rw [fu (by omega)] at hk2
 refine qJ (qI 0 1) ?_
 exact hk2
theorem EY (a b:EndD) (h1:a.far.length<=1048576) (h2:b.own.length<=1048576) (h3:b.done.length<=1048576):aP 118 [.ag (a.cs 0),.ag (b.cs 7)] (a.hp false++b.hp false) (.sc (.bo (GF a b))) (a.hp false++b.hp false):=by
 refine qE Tryz.func118 Tryz.ntmps118 Tryz.results118 fun E hE=>?_
 refine jx 14 hE (fun s (k:Nat)=>s.at (qU [0,2,4,1,6,28]) [(5,.sc (.int .i64 (k:Nat)))] (s.hp)) (fun (k:Nat)=>k<=a.far.length/\(a.far.drop k).all (tS b)=GF a b) (fun (k:Nat)=>a.far.length - k) 0 (qI 0 16) (⟨Nat.zero_le _,rfl⟩) fun k hk N hN=>?_
 obtain⟨hk1,hk2⟩:=hk
 refine qR ?_
 refine qB (fun h=>?_) fun h=>?_
 ·rw [yC h] at hk2
  refine qX ?_
  refine qD [0,1,2,3,4,5,6,7,8,9,10,11,12,13,14,15,16,17,18,19,20] ?_
  refine aQ (ej b _ h2) (qI 7 7) ?_
  refine qB (fun h4=>?_) fun h4=>?_
  ·refine aQ (eA b.done _ h3) (qI 12 1) ?_
   refine qG ?_
   refine qB (fun h5=>?_) fun h5=>?_
   ·have hp:tS b a.far[k]=false:=by simp [tS,h4,h5]
    rw [hp] at hk2
    refine qJ (qI 0 14) ?_
    exact hk2
   have hp:tS b a.far[k]=true:=by simp [tS,h5]
   rw [hp] at hk2
   exact qN hN (k+1) (qI 0 16) (by (try dsimp only);exact⟨by omega,hk2⟩)
  have hp:tS b a.far[k]=true:=by simp [tS,h4]
  rw [hp] at hk2
  refine qG ?_
  exact qN hN (k+1) (qI 0 16) (by (try dsimp only);exact⟨by omega,hk2⟩)
 rw [p0 (by omega)] at hk2
 refine qJ (qI 0 14) ?_
 exact hk2
theorem a1 (x:LetterD):aP 56 [.ag x.cs] [] (.sc (.bo (dZ x))) []:=by
 refine qE Tryz.func56 Tryz.ntmps56 Tryz.results56 fun E hE=>?_
 refine qK (Bg _ _ _) [] ?_
 refine qB (fun h1=>?_) fun h1=>?_
 ·refine qK (a4 (iv x) (by show 16<=1000000;omega)) (qI 2 1) ?_
  refine qB (fun h2=>?_) fun h2=>?_
  ·refine qJ [] ?_
   simp [dZ,h1,h2]
   omega
  refine qJ [] ?_
  simp [dZ,h1,h2]
 refine qJ [] ?_
 simp [dZ,h1]
theorem d5 (p:PolicyD):aP 160 [.ag p.cs] [] (.sc (.bo (polOk p))) []:=by
 refine qE Tryz.func160 Tryz.ntmps160 Tryz.results160 fun E hE=>?_
 refine qB (fun h1=>?_) fun h1=>?_
 ·refine qK (Bg _ _ _) [] ?_
  refine qJ [] ?_
  simp [polOk,h1]
 refine qB (fun h2=>?_) fun h2=>?_
 ·refine qB (fun h3=>?_) fun h3=>?_
  ·refine qJ [] ?_
   simp [polOk,h1,h2,h3]
  refine qJ [] ?_
  simp [polOk,h1,h2,h3]
 refine qJ [] ?_
 simp [polOk,h1,h2]
theorem c0 (p:PiecesD):aP 213 [.ag (p.cs 0)] (p.hp false) (.sc (.int .i64 (nextOf p))) (p.hp false):=by
 refine qE Tryz.func213 Tryz.ntmps213 Tryz.results213 fun E hE=>?_
 refine qP (qI 0 1) ?_
 first|exact⟨⟩|rfl
theorem cT (l:List HalfD) (r:RoadD) (hl:l.length<=1048576):aP 197 [.sc (.sl 0 0 l.length),.ag r.cs] [some ⟨l.map HalfD.cs,8,121,false,true⟩] (.sc (.int .i64 (a_ l r))) [some ⟨l.map HalfD.cs,8,121,false,true⟩]:=by
 refine qE Tryz.func197 Tryz.ntmps197 Tryz.results197 fun E hE=>?_
 refine jx 1 hE (fun s (k:Nat)=>s.at (qU [0,2,4,3,10,10]) [(9,.sc (.int .i64 (k:Nat)))] (s.hp)) (fun (k:Nat)=>k<=l.length/\ck (fun h:HalfD=>dM h.road r) k (l.drop k)=a_ l r) (fun (k:Nat)=>l.length - k) 0 (qI 0 2) (⟨Nat.zero_le _,rfl⟩) fun k hk N hN=>?_
 obtain⟨hk1,hk2⟩:=hk
 refine qR ?_
 refine qB (fun h=>?_) fun h=>?_
 ·rw [iZ h] at hk2
  refine qX ?_
  refine qB (fun h2=>?_) fun h2=>?_
  ·rw [mv h2,if_pos rfl] at hk2
   refine qP (qI 0 1) ?_
   first|exact⟨⟩|exact hk2
  rw [mw h2,if_neg (by simp)] at hk2
  exact qN hN (k+1) (qI 0 2) (by (try dsimp only);exact⟨by omega,hk2⟩)
 rw [kh (by omega)] at hk2
 refine qP (qI 0 1) ?_
 first|exact⟨⟩|exact hk2
theorem b6 (l:List AddrD) (n:Int) (hl:l.length<=1048576):aP 208 [.sc (.sl 0 0 l.length),.sc (.int .i64 n)] [some ⟨l.map AddrD.cs,4,103,false,true⟩] (.sc (.int .i64 (aG l n))) [some ⟨l.map AddrD.cs,4,103,false,true⟩]:=by
 refine qE Tryz.func208 Tryz.ntmps208 Tryz.results208 fun E hE=>?_
 refine jx 1 hE (fun s (k:Nat)=>s.at (qU [0,1,4,3,10,10]) [(9,.sc (.int .i64 (k:Nat)))] (s.hp)) (fun (k:Nat)=>k<=l.length/\ck (fun a:AddrD=>a.id == n) k (l.drop k)=aG l n) (fun (k:Nat)=>l.length - k) 0 (qI 0 1) (⟨Nat.zero_le _,rfl⟩) fun k hk N hN=>?_
 obtain⟨hk1,hk2⟩:=hk
 refine qR ?_
 refine qB (fun h=>?_) fun h=>?_
 ·rw [iZ h] at hk2
  refine qX ?_
  refine qB (fun h2=>?_) fun h2=>?_
  ·rw [if_pos (by simp [h2])] at hk2
   refine qP (qI 0 1) ?_
   first|exact⟨⟩|exact hk2
  rw [if_neg (by simp [h2])] at hk2
  exact qN hN (k+1) (qI 0 1) (by (try dsimp only);exact⟨by omega,hk2⟩)
 rw [kh (by omega)] at hk2
 refine qP (qI 0 1) ?_
 first|exact⟨⟩|exact hk2
theorem a7 (e:EndD) (r:RoadD) (hl:e.subs.length<=1048576):aP 178 [.ag (e.cs 0),.ag r.cs] (e.hp false) (.sc (.int .i64 (aU e.subs r))) (e.hp false):=by
 refine qE Tryz.func178 Tryz.ntmps178 Tryz.results178 fun E hE=>?_
 refine jx 7 hE (fun s (k:Nat)=>s.at (qU [0,3,4,4,11,15]) [(10,.sc (.int .i64 (k:Nat)))] (s.hp)) (fun (k:Nat)=>k<=e.subs.length/\ck (fun s:SubD=>s.state != 4 && dM s.road r) k (e.subs.drop k)=aU e.subs r) (fun (k:Nat)=>e.subs.length - k) 0 (qI 0 9) (⟨Nat.zero_le _,rfl⟩) fun k hk N hN=>?_
 obtain⟨hk1,hk2⟩:=hk
 refine qR ?_
 refine qB (fun h=>?_) fun h=>?_
 ·rw [iZ h] at hk2
  refine qX ?_
  refine qB (fun h2=>?_) fun h2=>?_
  ·refine qB (fun h3=>?_) fun h3=>?_
   ·rw [if_pos (by simp [mv h3,h2])] at hk2
    refine qP (qI 0 7) ?_
    first|exact⟨⟩|exact hk2
   rw [if_neg (by simp [mw h3])] at hk2
   exact qN hN (k+1) (qI 0 9) (by (try dsimp only);exact⟨by omega,hk2⟩)
  rw [if_neg (by simp [h2])] at hk2
  refine qX ?_
  exact qN hN (k+1) (qI 0 9) (by (try dsimp only);exact⟨by omega,hk2⟩)
 rw [kh (by omega)] at hk2
 refine qP (qI 0 7) ?_
 first|exact⟨⟩|exact hk2
theorem b7 (r:RoadD):aP 177 [.ag r.cs] [] (.sc (.bo (ms r))) []:=by
 refine qE Tryz.func177 Tryz.ntmps177 Tryz.results177 fun E hE=>?_
 refine qK (a4 [r.own,r.far,r.port] (by simp)) (qI 1 1) ?_
 refine qP [] ?_
 first|exact⟨⟩|simp [ms,Bool.and_assoc]
theorem c9 (x:OutD):aP 174 [.ag x.cs] [] (.sc (.bo (outOk x))) []:=by
 refine qE Tryz.func174 Tryz.ntmps174 Tryz.results174 fun E hE=>?_
 refine qK (a4 [x.base] (by simp)) (qI 1 1) ?_
 have e1:[x.base].all gA=gA x.base:=by simp
 rw [e1]
 refine qX ?_
 refine qB (fun h1=>?_) fun h1=>?_
 ·refine qK (Bg _ _ _) [] ?_
  refine qB (fun h2=>?_) fun h2=>?_
  ·refine qB (fun h3=>?_) fun h3=>?_
   ·refine qK (Bg _ _ _) [] ?_
    refine qJ [] ?_
    simp [outOk,h1,h2,h3]
   refine qJ [] ?_
   simp [outOk,h1,h2,h3]
  refine qJ [] ?_
  simp [outOk,h1,h2]
 refine qJ [] ?_
 simp [outOk,h1]
theorem n0 (p:PiecesD) (hl:p.list.length<=1048576):aP 258 [.ag (p.cs 0)] (p.hp false) (.sc (.int .i64 (mt p))) (p.hp false):=by
 refine qE Tryz.func258 Tryz.ntmps258 Tryz.results258 fun E hE=>?_
 refine jx 1 hE (fun s (x:Nat×Int)=>s.at (qU [0,2,5,5,13,9]) [(12,.sc (.int .i64 (x.1:Nat))),(3,.sc (.int .i64 x.2))] (s.hp)) (fun (x:Nat×Int)=>x.1<=p.list.length/\fD x.2 (p.list.drop x.1)=mt p) (fun (x:Nat×Int)=>p.list.length - x.1) (0,(p.ready.length:Int)) (qI 0 2) (⟨Nat.zero_le _,rfl⟩) fun x hx N hN=>?_
 obtain⟨k,n⟩:=x
 obtain⟨hk1,hk2⟩:=hx
 dsimp only at hk1 hk2
 refine qR ?_
 refine qB (fun h=>?_) fun h=>?_
 ·rw [rm h] at hk2
  refine qX ?_
  exact qN hN (k+1,IntKind.i64.wrap (n+(p.list[k].text.length:Int))) (qI 0 2) (by (try dsimp only);exact⟨by omega,hk2⟩)
 rw [List.drop_eq_nil_of_le (by omega),fD] at hk2
 refine qP (qI 0 1) ?_
 first|exact⟨⟩|exact hk2
theorem c8 (b:BucketD):aP 173 [.ag b.cs] [] (.sc (.bo (bucketOk b))) []:=by
 refine qE Tryz.func173 Tryz.ntmps173 Tryz.results173 fun E hE=>?_
 refine qK (Bg _ _ _) [] ?_
 refine qB (fun h1=>?_) fun h1=>?_
 ·refine qK (Bg _ _ _) [] ?_
  refine qB (fun h2=>?_) fun h2=>?_
  ·refine qK (Bg _ _ _) [] ?_
   refine qJ [] ?_
   simp [bucketOk,h1,h2]
  refine qJ [] ?_
  simp [bucketOk,h1,h2]
 refine qJ [] ?_
 simp [bucketOk,h1]
theorem da (l:List AddrD) (hl:l.length<=1048577):aP 171 [.sc (.sl 0 0 l.length)] [some ⟨l.map AddrD.cs,4,103,false,true⟩] (.sc (.bo (aX l))) [some ⟨l.map AddrD.cs,4,103,false,true⟩]:=by
 refine qE Tryz.func171 Tryz.ntmps171 Tryz.results171 fun E hE=>?_
 refine qB (fun g1=>?_) fun g1=>?_
 ·have hr:aX l=false:=by simp [aX];omega
  rw [hr]
  exact qF (qI 0 1)
 have hr:aX l=dy (gB l) l.length:=by simp [aX];omega
 rw [hr]
 refine qX ?_
 refine jx 1 hE (fun s (k:Nat)=>s.at (qU [2,3,6,4,13,44]) [(12,.sc (.int .i64 (k:Nat)))] (s.hp)) (fun (k:Nat)=>k<=l.length/\∀ j,j < k->gB l j=true) (fun (k:Nat)=>l.length - k) 0 (qI 0 1) (⟨Nat.zero_le _,fun j hj=>absurd hj (Nat.not_lt_zero _)⟩) fun k hk N hN=>?_
 obtain⟨hk1,hk2⟩:=hk
 refine qR ?_
 refine qB (fun h=>?_) fun h=>?_
 ·have hA:=i1 h
  obtain⟨a,ha⟩:∃ a,a=l[k]:=⟨_,rfl⟩
  refine qX ?_
  refine qD [0,1,2,3,4,5,6,7,8,9,10,11,12,13,14,15,16,17,18,19,20,21,22,23,24] ?_
  refine aQ (Bg _ _ _) [] ?_
  refine qB (fun h2=>?_) fun h2=>?_
  ·refine aQ (Bg _ _ _) [] ?_
   refine qB (fun h3=>?_) fun h3=>?_
   ·by_cases h0:k=0
    ·subst h0
     refine qX ?_
     refine qG ?_
     refine jx 1 hE (fun s (i:Nat)=>s.at (qU [2,1,6,4,14,27,42,2,47,10]) [(46,.sc (.int .i64 (i:Nat)))] (s.hp)) (fun (i:Nat)=>i<=0) (fun (i:Nat)=>0 - i) 0 (qI 0 2) (Nat.zero_le _) fun i hi N2 hN2=>?_
     refine ac 400 ?_
     have e:i=0:=by omega
     subst e
     refine qX ?_
     have hg:gB l 0=true:=by
      rw [gB,hA]
      simp [h2,h3]
     exact qN hN (0+1) (qI 0 1) (by (try dsimp only);exact⟨by omega,ee hk2 hg⟩)
    have hk':k - 1 < l.length:=by omega
    have hA':=i1 hk'
    obtain⟨m,rfl⟩:∃ m,k=m+1:=⟨k - 1,by omega⟩
    have em:m+1 - 1=m:=by omega
    have em2:((m+1:Nat):Int) - 1=(m:Int):=by omega
    have em3:(m:Int)+1 - 1=(m:Int):=by omega
    have hm:m < l.length:=by omega
    try simp (disch:=omega) only [go_sem,seval,em2,em3,aT hm]
    refine⟨by (try simp (disch:=omega) only [go_sem,List.length_set,seval,em2,em3])<;>omega,ac 400 ?_⟩
    refine qX ?_
    refine qB (fun h5=>?_) fun h5=>?_
    ·have hb:gB l (m+1)=false:=by
      rw [gB,hA,hA']
      simp
      omega
     rw [al h hb]
     exact qF (qI 0 1)
    have h5':l[m].id < l[m+1].id:=by omega
    refine jx 1 hE (fun s (i:Nat)=>s.at (qU [2,1,6,4,14,27,42,2,47,10]) [(46,.sc (.int .i64 (i:Nat)))] (s.hp)) (fun (i:Nat)=>i<=m+1/\((l.take (m+1)).drop i).all (fun b=> !(l[m+1].addr == b.addr))=(l.take (m+1)).all (fun b=> !(l[m+1].addr == b.addr))) (fun (i:Nat)=>m+1 - i) 0 (qI 0 2) (⟨Nat.zero_le _,rfl⟩) fun i hi N2 hN2=>?_
    obtain⟨hi1,hi2⟩:=hi
    refine qR ?_
    refine qB (fun h6=>?_) fun h6=>?_
    ·rw [nJ (by omega) (by omega)] at hi2
     have hil:i < l.length:=by omega
     try simp (disch:=omega) only [go_sem,seval,aT hil]
     refine qB (fun h7=>?_) fun h7=>?_
     ·have hb:gB l (m+1)=false:=by
       rw [gB,hA,<-hi2]
       simp [h7]
      rw [al h hb]
      exact qF (qI 0 1)
     have h7':¬ l[m+1].addr=l[i].addr:=fun e=>h7 (by first|exact e|exact e.symm)
     rw [show (!(l[m+1].addr == l[i].addr))=true from by simp [h7'],Bool.true_and] at hi2
     exact qN hN2 (i+1) (qI 0 2) (by (try dsimp only);exact⟨by omega,hi2⟩)
    rw [List.drop_eq_nil_of_le (by simp;omega),List.all_nil] at hi2
    have hg:gB l (m+1)=true:=by
     rw [gB,hA,<-hi2]
     simp [h2,h3,i1 hm,h5']
    exact qN hN (m+1+1) (qI 0 1) (by (try dsimp only);exact⟨by omega,ee hk2 hg⟩)
   have hb:gB l k=false:=by simp [gB,hA,h3]
   rw [al h hb]
   refine qG ?_
   exact qF (qI 0 1)
  have hb:gB l k=false:=by simp [gB,hA,h2]
  rw [al h hb]
  refine qG ?_
  exact qF (qI 0 1)
 have e:k=l.length:=by omega
 subst e
 rw [ed hk2]
 exact qF (qI 0 1)
theorem eb (l:List HalfD) (hl:l.length<=1048576):aP 172 [.sc (.sl 0 0 l.length)] [some ⟨l.map HalfD.cs,8,121,false,true⟩] (.sc (.bo (cv l))) [some ⟨l.map HalfD.cs,8,121,false,true⟩]:=by
 refine qE Tryz.func172 Tryz.ntmps172 Tryz.results172 fun E hE=>?_
 refine qB (fun g1=>?_) fun g1=>?_
 ·have hr:cv l=false:=by simp [cv];omega
  rw [hr]
  exact qF (qI 0 1)
 have hr:cv l=dy (fO l) l.length:=by simp [cv];omega
 rw [hr]
 refine qX ?_
 refine jx 1 hE (fun s (k:Nat)=>s.at (qU [2,6,11,32]) [(10,.sc (.int .i64 (k:Nat)))] (s.hp)) (fun (k:Nat)=>k<=l.length/\∀ j,j < k->fO l j=true) (fun (k:Nat)=>l.length - k) 0 (qI 0 1) (⟨Nat.zero_le _,fun j hj=>absurd hj (Nat.not_lt_zero _)⟩) fun k hk N hN=>?_
 obtain⟨hk1,hk2⟩:=hk
 refine qR ?_
 refine qB (fun h=>?_) fun h=>?_
 ·have hA:=tG h
  refine qX ?_
  refine qK (cT l l[k].road hl) (qI 0 1) ?_
  refine qB (fun h2=>?_) fun h2=>?_
  ·refine qK (b7 l[k].road) [] ?_
   refine qB (fun h3=>?_) fun h3=>?_
   ·refine qK (a4 [l[k].theirs,l[k].mine,l[k].give,l[k].take,l[k].till] (by simp)) (qI 2 1) ?_
    generalize hq:[l[k].theirs,l[k].mine,l[k].give,l[k].take,l[k].till].all gA=q
    refine qB (fun h4=>?_) fun h4=>?_
    ·have hb:fO l k=false:=by simp [fO,hA,hq,h4]
     rw [al h hb]
     exact qF (qI 0 1)
    have hg:fO l k=true:=by simp [fO,hA,hq,h4,h2,h3]
    exact qN hN (k+1) (qI 0 1) (by (try dsimp only);exact⟨by omega,ee hk2 hg⟩)
   have hb:fO l k=false:=by simp [fO,hA,h3]
   rw [al h hb]
   exact qF (qI 0 1)
  have hb:fO l k=false:=by simp [fO,hA,h2]
  rw [al h hb]
  exact qF (qI 0 1)
 have e:k=l.length:=by omega
 subst e
 rw [ed hk2]
 exact qF (qI 0 1)
theorem a2 (p:PiecesD) (hl:p.list.length<=1048576):aP 175 [.ag (p.cs 0)] (p.hp false) (.sc (.bo (piecesOk p))) (p.hp false):=by
 refine qE Tryz.func175 Tryz.ntmps175 Tryz.results175 fun E hE=>?_
 refine qK (a4 [p.read] (by simp)) (qI 2 1) ?_
 have e1:[p.read].all gA=gA p.read:=by simp
 rw [e1]
 refine qX ?_
 refine qB (fun g1=>?_) fun g1=>?_
 ·skip
  refine qB (fun g2=>?_) fun g2=>?_
  ·skip
   have hr:piecesOk p=false:=by simp [piecesOk,g2];try omega
   rw [hr]
   exact qF (qI 0 1)
  skip
  refine qK (c0 p) (qI 0 1) ?_
  refine jx 1 hE (fun s (x:Nat×Int)=>s.at (qU [0,1,2,1,5,15,23,24]) [(22,.sc (.int .i64 (x.1:Nat))),(3,.sc (.int .i64 x.2))] (s.hp)) (fun (x:Nat×Int)=>x.1<=p.list.length/\gV x.2 (p.list.drop x.1)=gV (nextOf p) p.list) (fun (x:Nat×Int)=>p.list.length - x.1) (0,nextOf p) (qI 0 3) (⟨Nat.zero_le _,rfl⟩) fun x hx N hN=>?_
  obtain⟨k,en⟩:=x
  obtain⟨hk1,hk2⟩:=hx
  dsimp only at hk1 hk2
  refine qR ?_
  refine qB (fun h=>?_) fun h=>?_
  ·refine qX ?_
   have fx:gV en (p.list.drop k)=(!(p.list[k].text == []) && decide (p.list[k].pos<=2000000000) && decide (en < p.list[k].pos) && gV (IntKind.i64.wrap (p.list[k].pos+(p.list[k].text.length:Int))) (p.list.drop (k+1))):=wE h
   have ft:(p.list[k].text == [])=decide ((p.list[k].text.length:Int)=0):=by
    cases p.list[k].text with
    |nil=>rfl
    |cons a r=>simp;omega
   by_cases t1:(p.list[k].text.length:Int)=0
   ·have ft':(p.list[k].text == [])=true:=by rw [ft];exact decide_eq_true t1
    have fx':gV en (p.list.drop k)=false:=by rw [fx,ft'];simp
    try simp (disch:=omega) only [go_sem,seval,ft']
    have hr:piecesOk p=false:=by simp [piecesOk,<-hk2,fx']
    rw [hr]
    exact qF (qI 0 1)
   have ft':(p.list[k].text == [])=false:=by rw [ft];exact decide_eq_false t1
   by_cases t2:p.list[k].pos<=2000000000
   ·by_cases t3:en < p.list[k].pos
    ·have fx':gV en (p.list.drop k)=gV (IntKind.i64.wrap (p.list[k].pos+(p.list[k].text.length:Int))) (p.list.drop (k+1)):=by rw [fx,ft'];simp [t2,t3]
     try simp (disch:=omega) only [go_sem,seval,ft']
     rw [fx'] at hk2
     refine qX ?_
     exact qN hN (k+1,IntKind.i64.wrap (p.list[k].pos+(p.list[k].text.length:Int))) (qI 0 3) (by (try dsimp only);exact⟨by omega,hk2⟩)
    have fx':gV en (p.list.drop k)=false:=by rw [fx,ft'];simp [t3]
    try simp (disch:=omega) only [go_sem,seval,ft']
    have hr:piecesOk p=false:=by simp [piecesOk,<-hk2,fx']
    rw [hr]
    exact qF (qI 0 1)
   have fx':gV en (p.list.drop k)=false:=by rw [fx,ft'];simp [t2]
   by_cases t3:en < p.list[k].pos
   ·try simp (disch:=omega) only [go_sem,seval,ft']
    have hr:piecesOk p=false:=by simp [piecesOk,<-hk2,fx']
    rw [hr]
    exact qF (qI 0 1)
   try simp (disch:=omega) only [go_sem,seval,ft']
   have hr:piecesOk p=false:=by simp [piecesOk,<-hk2,fx']
   rw [hr]
   exact qF (qI 0 1)
  rw [List.drop_eq_nil_of_le (by omega),gV] at hk2
  have g2':(p.list.length:Int)<=20:=by omega
  have hr:piecesOk p=decide (mt p<=200):=by simp [piecesOk,<-hk2,g1,g2']
  rw [hr]
  refine qX ?_
  refine qK (n0 p hl) (qI 0 1) ?_
  exact qF (qI 0 1)
 skip
 have hr:piecesOk p=false:=by simp [piecesOk,g1];try omega
 rw [hr]
 exact qF (qI 0 1)
theorem n2 (l:List Int) (hl:l.length<=1048576):aP 259 [.sc (.sl 0 0 l.length)] [some ⟨l.map aM,1,3,false,true⟩] (.sc (.bo (dy (cK l) l.length))) [some ⟨l.map aM,1,3,false,true⟩]:=by
 refine qE Tryz.func259 Tryz.ntmps259 Tryz.results259 fun E hE=>?_
 refine jx 1 hE (fun s (k:Nat)=>s.at (qU [2,1,4,16]) [(3,.sc (.int .i64 (k:Nat)))] (s.hp)) (fun (k:Nat)=>1<=k/\(k<=l.length\/k=1)/\∀ j,j < k->cK l j=true) (fun (k:Nat)=>l.length - k) 1 (qI 0 1) (⟨by decide,.inr rfl,fun j hj=>by rw [show j=0 from by omega];rfl⟩) fun k hk N hN=>?_
 obtain⟨hk0,hk1,hk2⟩:=hk
 refine qR ?_
 obtain⟨m,rfl⟩:∃ m,k=m+1:=⟨k - 1,by omega⟩
 have em2:((m+1:Nat):Int) - 1=(m:Int):=by omega
 have em3:(m:Int)+1 - 1=(m:Int):=by omega
 refine qX ?_
 refine qB (fun h=>?_) fun h=>?_
 ·have hm:m < l.length:=by omega
  have h':m+1 < l.length:=by omega
  refine qD [0,1,2,3,4,5,6,7,8,9] ?_
  try simp (disch:=omega) only [go_sem,seval,em2,em3,aT hm,aT h']
  refine⟨by (try simp (disch:=omega) only [go_sem,List.length_set,seval,em2,em3])<;>omega,ac 400 ?_⟩
  refine qX ?_
  refine qB (fun h3=>?_) fun h3=>?_
  ·have hb:cK l (m+1)=false:=by
    rw [cK,pQ h',show m+1 - 1=m from rfl,pQ hm]
    simp
    omega
   rw [al h' hb]
   exact qF (qI 0 1)
  have hg:cK l (m+1)=true:=by
   rw [cK,pQ h',show m+1 - 1=m from rfl,pQ hm]
   simp
   omega
  exact qN hN (m+1+1) (qI 0 1) (by (try dsimp only);exact⟨by omega,by omega,ee hk2 hg⟩)
 rw [ed (fun j hj=>hk2 j (by omega))]
 exact qF (qI 0 1)
theorem fa (l:List Int) (m:List AddrD) (hl:l.length<=1048576) (hm:m.length<=1048576):aP 176 [.sc (.sl 0 0 l.length),.sc (.sl 1 0 m.length)] [some ⟨l.map aM,1,3,false,true⟩,some ⟨m.map AddrD.cs,4,103,false,true⟩] (.sc (.bo (oH l m))) [some ⟨l.map aM,1,3,false,true⟩,some ⟨m.map AddrD.cs,4,103,false,true⟩]:=by
 refine qE Tryz.func176 Tryz.ntmps176 Tryz.results176 fun E hE=>?_
 refine qK (n2 l hl) (qI 0 1) ?_
 rw [oH]
 generalize dy (cK l) l.length=q
 cases q with
 |false=>
  refine qX ?_
  exact qF (qI 0 2)
 |true=>
  rw [Bool.true_and]
  refine qX ?_
  refine jx 2 hE (fun s (k:Nat)=>s.at (qU [0,1,4,1,6,4,13,13]) [(12,.sc (.int .i64 (k:Nat)))] (s.hp)) (fun (k:Nat)=>k<=l.length/\∀ j,j < k->fE l m j=true) (fun (k:Nat)=>l.length - k) 0 (qI 0 2) (⟨Nat.zero_le _,fun j hj=>absurd hj (Nat.not_lt_zero _)⟩) fun k hk N hN=>?_
  obtain⟨hk1,hk2⟩:=hk
  refine qR ?_
  refine qB (fun h=>?_) fun h=>?_
  ·refine qX ?_
   refine qK (Bg _ _ _) [] ?_
   refine qB (fun h2=>?_) fun h2=>?_
   ·refine qK (b6 m l[k] hm) (qI 1 1) ?_
    refine qB (fun h3=>?_) fun h3=>?_
    ·have hb:fE l m k=false:=by rw [fE,pQ h];simp [h2];omega
     rw [al h hb]
     exact qF (qI 0 2)
    have hg:fE l m k=true:=by rw [fE,pQ h];simp [h2];omega
    exact qN hN (k+1) (qI 0 2) (by (try dsimp only);exact⟨by omega,ee hk2 hg⟩)
   have hb:fE l m k=false:=by rw [fE,pQ h];simp [h2]
   rw [al h hb]
   exact qF (qI 0 2)
  have e:k=l.length:=by omega
  subst e
  rw [ed hk2]
  exact qF (qI 0 2)
theorem ap (e:EndD) (h0:e.own.length<=1048576) (h1:e.far.length<=1048576) (h2:e.subs.length<=1048576) (h3:e.halfs.length<=1048576) (h4:e.inp.list.length<=1048576) (h5:e.done.length<=1048576) (h6:e.over.length<=1048576):aP 89 [.ag (e.cs 0)] (e.hp false) (.sc (.bo (af e))) (e.hp false):=by
 refine qE Tryz.func89 Tryz.ntmps89 Tryz.results89 fun E hE=>?_
 refine qK (Bg _ _ _) [] ?_
 refine qB (fun g1=>?_) fun g1=>?_
 ·skip
  refine qK (Bg _ _ _) [] ?_
  refine qB (fun g2=>?_) fun g2=>?_
  ·skip
   refine qK (d5 e.policy) [] ?_
   refine qB (fun g3=>?_) fun g3=>?_
   ·skip
    refine qK (da e.own (by omega)) (qI 0 1) ?_
    refine qB (fun g4=>?_) fun g4=>?_
    ·skip
     refine qK (da e.far (by omega)) (qI 1 1) ?_
     refine qB (fun g5=>?_) fun g5=>?_
     ·skip
      refine qK (eb e.halfs h3) (qI 3 1) ?_
      refine qB (fun g6=>?_) fun g6=>?_
      ·skip
       refine qK (c8 e.bucket) [] ?_
       refine qB (fun g7=>?_) fun g7=>?_
       ·skip
        refine qK (c9 e.out) [] ?_
        refine qB (fun g8=>?_) fun g8=>?_
        ·skip
         refine qK (a2 e.inp h4) (qI 4 1) ?_
         refine qB (fun g9=>?_) fun g9=>?_
         ·skip
          have hr:af e=false:=by first|(simp [af,g9];done)|(simp [af];intros;omega)
          rw [hr]
          exact qF (qI 0 7)
         skip
         refine qX ?_
         refine qK (fa e.done e.own h5 h0) (qI 5 1++qI 0 1) ?_
         refine qB (fun g10=>?_) fun g10=>?_
         ·skip
          refine qK (fa e.over e.far h6 h1) (qI 6 1++qI 1 1) ?_
          refine qB (fun g11=>?_) fun g11=>?_
          ·skip
           refine qB (fun g12=>?_) fun g12=>?_
           ·skip
            refine qK (a4 [e.key,e.peer,e.draw,e.now,e.pick] (by simp)) (qI 8 1) ?_
            generalize hq:[e.key,e.peer,e.draw,e.now,e.pick].all gA=q
            refine qB (fun g13=>?_) fun g13=>?_
            ·skip
             have hr:af e=false:=by first|(simp [af,hq,g13];done)|(simp [af];intros;omega)
             rw [hr]
             exact qF (qI 0 7)
            skip
            refine qX ?_
            refine jx 7 hE (fun s (k:Nat)=>s.at (qU [0,1,2,91,96,41]) [(95,.sc (.int .i64 (k:Nat)))] (s.hp)) (fun (k:Nat)=>k<=e.subs.length/\∀ j,j < k->cz e.subs j=true) (fun (k:Nat)=>e.subs.length - k) 0 (qI 0 9) (⟨Nat.zero_le _,fun j hj=>absurd hj (Nat.not_lt_zero _)⟩) fun k hk N hN=>?_
            obtain⟨hk1,hk2⟩:=hk
            refine qR ?_
            refine qB (fun h=>?_) fun h=>?_
            ·have hA:=ke h
             refine qX ?_
             refine qK (Bg _ _ _) [] ?_
             refine qB (fun s1=>?_) fun s1=>?_
             ·skip
              refine qK (b7 e.subs[k].road) [] ?_
              refine qB (fun s2=>?_) fun s2=>?_
              ·skip
               refine qK (a4 [e.subs[k].mine,e.subs[k].theirs,e.subs[k].give,e.subs[k].take,e.subs[k].tries] (by simp)) (qI 10 1) ?_
               generalize hsq:[e.subs[k].mine,e.subs[k].theirs,e.subs[k].give,e.subs[k].take,e.subs[k].tries].all gA=sq
               refine qB (fun s3=>?_) fun s3=>?_
               ·skip
                have hb:cz e.subs k=false:=by simp [cz,hA,hsq,s3]
                have hu:=al h hb
                have hr:af e=false:=by simp [af,hu]
                rw [hr]
                exact qF (qI 0 7)
               skip
               refine qX ?_
               refine qB (fun s4=>?_) fun s4=>?_
               ·refine qK (a7 e e.subs[k].road h2) (qI 0 7) ?_
                refine qB (fun s5=>?_) fun s5=>?_
                ·skip
                 have hb:cz e.subs k=false:=by simp [cz,hA,s1,s2,hsq,s3,s4,s5]
                 have hu:=al h hb
                 have hr:af e=false:=by simp [af,hu]
                 rw [hr]
                 exact qF (qI 0 7)
                skip
                have hg:cz e.subs k=true:=by first|(simp [cz,hA,s1,s2,hsq,s3,s4,s5];done)|(simp [cz,hA,s1,s2,hsq,s3,s4,s5];decide)
                exact qN hN (k+1) (qI 0 9) (by (try dsimp only);exact⟨by omega,ee hk2 hg⟩)
               skip
               have hg:cz e.subs k=true:=by first|(simp [cz,hA,s1,s2,hsq,s3,s4];done)|(simp [cz,hA,s1,s2,hsq,s3,s4];decide)
               exact qN hN (k+1) (qI 0 9) (by (try dsimp only);exact⟨by omega,ee hk2 hg⟩)
              skip
              have hb:cz e.subs k=false:=by simp [cz,hA,s2]
              have hu:=al h hb
              have hr:af e=false:=by simp [af,hu]
              rw [hr]
              exact qF (qI 0 7)
             skip
             have hb:cz e.subs k=false:=by simp [cz,hA,s1]
             have hu:=al h hb
             have hr:af e=false:=by simp [af,hu]
             rw [hr]
             exact qF (qI 0 7)
            have ek:k=e.subs.length:=by omega
            subst ek
            have hu:=ed hk2
            have g12':(e.subs.length:Int)<=8:=by omega
            have hr:af e=true:=by simp [af,g1,g2,g3,g4,g5,g6,g7,g8,g9,g10,g11,g12',hq,g13,hu]
            rw [hr]
            exact qF (qI 0 7)
           skip
           have hr:af e=false:=by first|(simp [af,g12];done)|(simp [af];intros;omega)
           rw [hr]
           exact qF (qI 0 7)
          skip
          have hr:af e=false:=by first|(simp [af,g11];done)|(simp [af];intros;omega)
          rw [hr]
          exact qF (qI 0 7)
         skip
         have hr:af e=false:=by first|(simp [af,g10];done)|(simp [af];intros;omega)
         rw [hr]
         exact qF (qI 0 7)
        skip
        have hr:af e=false:=by first|(simp [af,g8];done)|(simp [af];intros;omega)
        rw [hr]
        exact qF (qI 0 7)
       skip
       have hr:af e=false:=by first|(simp [af,g7];done)|(simp [af];intros;omega)
       rw [hr]
       exact qF (qI 0 7)
      skip
      have hr:af e=false:=by first|(simp [af,g6];done)|(simp [af];intros;omega)
      rw [hr]
      exact qF (qI 0 7)
     skip
     have hr:af e=false:=by first|(simp [af,g5];done)|(simp [af];intros;omega)
     rw [hr]
     exact qF (qI 0 7)
    skip
    have hr:af e=false:=by first|(simp [af,g4];done)|(simp [af];intros;omega)
    rw [hr]
    exact qF (qI 0 7)
   skip
   have hr:af e=false:=by first|(simp [af,g3];done)|(simp [af];intros;omega)
   rw [hr]
   exact qF (qI 0 7)
  skip
  have hr:af e=false:=by first|(simp [af,g2];done)|(simp [af];intros;omega)
  rw [hr]
  exact qF (qI 0 7)
 skip
 have hr:af e=false:=by first|(simp [af,g1];done)|(simp [af];intros;omega)
 rw [hr]
 exact qF (qI 0 7)
theorem a5 (x:LetterD):aP 192 [.ag x.cs] [] (.ag (roadOf x).cs) []:=by
 refine qE Tryz.func192 Tryz.ntmps192 Tryz.results192 fun E hE=>?_
 refine qP [] ?_
 first|exact⟨⟩|simp [roadOf]
theorem a0 (r:RoadD) (x:LetterD):aP 196 [.ag r.cs,.ag x.cs] [] (.ag (aq r x).cs) []:=by
 refine qE Tryz.func196 Tryz.ntmps196 Tryz.results196 fun E hE=>?_
 refine qP [] ?_
 first|exact⟨⟩|simp [aq]
theorem b8 (a b c d:Int):aP 201 [.sc (.int .i64 a),.sc (.int .i64 b),.sc (.int .i64 c),.sc (.int .i64 d)] [] (.ag (TagD.cs ⟨1,a,b,c,d⟩)) []:=by
 refine qE Tryz.func201 Tryz.ntmps201 Tryz.results201 fun E hE=>?_
 exact qF []
theorem a9 (a b c d:Int):aP 203 [.sc (.int .i64 a),.sc (.int .i64 b),.sc (.int .i64 c),.sc (.int .i64 d)] [] (.ag (TagD.cs ⟨2,a,b,c,d⟩)) []:=by
 refine qE Tryz.func203 Tryz.ntmps203 Tryz.results203 fun E hE=>?_
 exact qF []
theorem el (a b c d:Int):aP 207 [.sc (.int .i64 a),.sc (.int .i64 b),.sc (.int .i64 c),.sc (.int .i64 d)] [] (.ag (TagD.cs ⟨3,a,b,c,d⟩)) []:=by
 refine qE Tryz.func207 Tryz.ntmps207 Tryz.results207 fun E hE=>?_
 exact qF []
theorem d6 (s:Int):aP 198 [.sc (.int .i64 s)] [] (.sc (.int .i64 (ey s))) []:=by
 obtain⟨R,hR⟩:∃ R,R=ey s:=⟨_,rfl⟩
 rw [<-hR]
 refine qE Tryz.func198 Tryz.ntmps198 Tryz.results198 fun E hE=>?_
 refine qK (Bg _ _ _) [] ?_
 refine qB (fun h1=>?_) fun h1=>?_
 ·refine qJ [] ?_
  rw [hR,ey,if_neg (by simp [h1])]
 have h1':=h1
 simp only [bj,Bool.and_eq_true,decide_eq_true_eq] at h1'
 refine qJ [] ?_
 rw [hR,ey,if_pos h1]
theorem nn (b:BucketD):aP 199 [.ag b.cs] [] (.tu [.ag (bI b).1.cs,.sc (.bo (bI b).2)]) []:=by
 obtain⟨R,hR⟩:∃ R,R=bI b:=⟨_,rfl⟩
 rw [<-hR]
 refine qE Tryz.func199 Tryz.ntmps199 Tryz.results199 fun E hE=>?_
 refine qK (c8 b) [] ?_
 refine qB (fun h1=>?_) fun h1=>?_
 ·refine qB (fun h2=>?_) fun h2=>?_
  ·rw [bI,if_neg (by omega)] at hR
   subst hR
   exact qF []
  rw [bI,if_pos ⟨h1,h2⟩] at hR
  subst hR
  have h1':=h1
  simp only [bucketOk,bj,Bool.and_eq_true,decide_eq_true_eq] at h1'
  exact qF []
 rw [bI,if_neg (by simp [h1])] at hR
 subst hR
 exact qF []
theorem a6 (e:EndD) (x:LetterD) (hl:e.subs.length<=1048576):aP 206 [.ag (e.cs 0),.ag x.cs] (e.hp false) (.sc (.int .i64 (cF e x))) (e.hp false):=by
 obtain⟨R,hR⟩:∃ R,R=cF e x:=⟨_,rfl⟩
 rw [<-hR]
 have hS:=a7 e (roadOf x) hl
 simp only [cF] at hR
 generalize hk:aU e.subs (roadOf x)=k at hS hR
 have hbd:=fP e.subs (roadOf x)
 rw [hk] at hbd
 refine qE Tryz.func206 Tryz.ntmps206 Tryz.results206 fun E hE=>?_
 refine qD [0,1,2,3,4] ?_
 refine aQ (a5 x) [] ?_
 refine aQ (hS) (qI 0 7) ?_
 refine qG ?_
 rcases hbd with rfl|⟨hb0,hb1⟩
 ·refine qD [0,1,2,3,4,5,6,7,8,9,10,11,12,13,14,15,16,17,18,19,20,21] ?_
  refine qG ?_
  refine qJ (qI 0 7) ?_
  rw [hR]
  rfl
 obtain⟨n,rfl⟩:=Int.eq_ofNat_of_zero_le hb0
 have hn:n < e.subs.length:=by omega
 have hsub:aN e.subs (n:Int).toNat=e.subs[n]:=by simp [aN,List.getD_eq_getElem?_getD,hn]
 rw [if_neg (by omega),hsub] at hR
 refine qD [0,1,2,3,4,5,6,7,8,9,10,11,12,13,14,15,16,17,18,19,20,21] ?_
 refine qB (fun h1=>?_) fun h1=>?_
 ·refine qG ?_
  refine qB (fun h2=>?_) fun h2=>?_
  ·rw [if_neg (fun h=>h2 h.2)] at hR
   refine qJ (qI 0 7) ?_
   exact hR.symm
  rw [if_pos ⟨h1,h2⟩] at hR
  refine qJ (qI 0 7) ?_
  exact hR.symm
 rw [if_neg (fun h=>h1 h.1)] at hR
 refine qG ?_
 refine qJ (qI 0 7) ?_
 exact hR.symm
theorem db (l:List HalfD) (h:HalfD) (hl:l.length<=1000000):aP 200 [.sc (.sl 0 0 l.length),.ag h.cs] [some ⟨l.map HalfD.cs,8,121,false,true⟩]
  (.tu [.sc (.sl 1 0 (bJ l h).1.length),.sc (.bo (bJ l h).2)]) [some ⟨l.map HalfD.cs,8,121,false,true⟩,some ⟨(bJ l h).1.map HalfD.cs,8,121,true,true⟩]:=by
 have hA:=cT l h.road (by omega)
 have hbd:=ix l h.road
 have hO:=eb (cx l h) (by have:=dN l h;omega)
 have hll:=dN l h
 have hL:=cx.eq_1 l h
 have ht:=oI (l:=l) (h:=h)
 have hf:=wF (l:=l) (h:=h)
 generalize cx l h=L at*
 generalize bJ l h=R at*
 generalize a_ l h.road=k at hA hbd hL
 refine qE Tryz.func200 Tryz.ntmps200 Tryz.results200 fun E hE=>?_
 refine qK (mz l (by omega)) (qI 0 1) ?_
 refine qK (hA) (qI 0 1) ?_
 rcases hbd with rfl|⟨hb0,hb1⟩
 ·rw [if_neg (by omega)] at hL
  subst hL
  have e:=yP l h
  simp only [HalfD.cs] at e
  rw [List.length_append] at hO
  try simp (disch:=omega) only [go_sem,seval,e]
  refine qK (hO) (qI 4 1) ?_
  refine qB (fun h1=>?_) fun h1=>?_
  ·rw [hf h1]
   refine qK (mz l (by omega)) (qI 0 1) ?_
   exact qF (qI 0 1++qI 5 1)
  rw [ht h1]
  try simp only [List.length_set]
  exact qF (qI 0 1++qI 4 1)
 obtain⟨n,rfl⟩:=Int.eq_ofNat_of_zero_le hb0
 rw [if_pos hb0,Int.toNat_natCast] at hL
 subst hL
 have e:=yN l n h
 simp only [HalfD.cs] at e
 rw [List.length_set] at hO
 try simp (disch:=omega) only [go_sem,seval,e]
 refine qK (hO) (qI 2 1) ?_
 refine qB (fun h1=>?_) fun h1=>?_
 ·rw [hf h1]
  refine qK (mz l (by omega)) (qI 0 1) ?_
  exact qF (qI 0 1++qI 3 1)
 rw [ht h1]
 try simp only [List.length_set]
 exact qF (qI 0 1++qI 2 1)
end
section
end
section
open Go.RowKit
theorem ns (k:KnownD) (t:TagD) (h0:k.keys.length<=1048576) (h1:k.tags.length<=1048576):aP 58 [.ag (k.cs 0),.ag t.cs] (k.hp false) (.sc (.bo (f7 k t))) (k.hp false):=by
 obtain⟨R,hR⟩:∃ R,R=f7 k t:=⟨_,rfl⟩
 rw [<-hR]
 rw [f7] at hR
 have hcmp:=TagD.cmp t lF
 simp only [TagD.cs,lF,go_sem] at hcmp
 have ht:lF=⟨0,0,0,0,0⟩:=rfl
 refine qE Tryz.func58 Tryz.ntmps58 Tryz.results58 fun E hE=>?_
 try simp (disch:=omega) only [go_sem,seval,hcmp]
 refine qB (fun b1=>?_) fun b1=>?_
 ·have b1':=of_decide_eq_false b1
  refine qK (ct k.keys t.one h0) (qI 0 1) ?_
  refine qB (fun b2=>?_) fun b2=>?_
  ·refine qK (ct k.keys t.two h0) (qI 0 1) ?_
   refine qB (fun b3=>?_) fun b3=>?_
   ·have hR':R=true:=by rw [hR];simp [b2,b3]
    subst hR'
    refine qX ?_
    exact qF (qI 0 2)
   have hR':R=(k.tags.take 300).any (fun u=>decide (u=t)):=by rw [hR,ht];simp [b1',b2,b3]
   refine qX ?_
   refine jx 2 hE (fun s (i:Nat)=>s.at (qU [0,2,4,1,6,35]) [(5,.sc (.int .i64 (i:Nat)))] (s.hp)) (fun (i:Nat)=>i<=k.tags.length/\i<=300/\((k.tags.take 300).drop i).any (fun u=>decide (u=t))=R) (fun (i:Nat)=>k.tags.length - i) 0 (qI 0 4) (⟨Nat.zero_le _,Nat.zero_le _,by rw [hR'];rfl⟩) fun i hi N hN=>?_
   obtain⟨hi1,hi2,hi3⟩:=hi
   refine qR ?_
   refine qB (fun h=>?_) fun h=>?_
   ·refine qB (fun h2=>?_) fun h2=>?_
    ·rw [fM (by simp;omega),List.getElem_take] at hi3
     have hcm:=TagD.cmp k.tags[i] t
     simp only [TagD.cs,go_sem] at hcm
     refine qX ?_
     refine qD [0,1,2,3,4,5,6] ?_
     refine⟨qC,ac 400 ?_⟩
     try simp (disch:=omega) only [go_sem,seval,hcm]
     refine qB (fun h3=>?_) fun h3=>?_
     ·rw [decide_eq_true h3,Bool.true_or] at hi3
      subst hi3
      refine qX ?_
      exact qF (qI 0 2)
     rw [decide_eq_false h3,Bool.false_or] at hi3
     exact qN hN (i+1) (qI 0 4) (by (try dsimp only);exact⟨by omega,by omega,hi3⟩)
    rw [fu (by simp;omega)] at hi3
    subst hi3
    refine qX ?_
    exact qF (qI 0 2)
   rw [fu (by simp;omega)] at hi3
   subst hi3
   refine qX ?_
   exact qF (qI 0 2)
  have hR':R=(k.tags.take 300).any (fun u=>decide (u=t)):=by rw [hR,ht];simp [b1',b2]
  refine qX ?_
  refine jx 2 hE (fun s (i:Nat)=>s.at (qU [0,2,4,1,6,35]) [(5,.sc (.int .i64 (i:Nat)))] (s.hp)) (fun (i:Nat)=>i<=k.tags.length/\i<=300/\((k.tags.take 300).drop i).any (fun u=>decide (u=t))=R) (fun (i:Nat)=>k.tags.length - i) 0 (qI 0 4) (⟨Nat.zero_le _,Nat.zero_le _,by rw [hR'];rfl⟩) fun i hi N hN=>?_
  obtain⟨hi1,hi2,hi3⟩:=hi
  refine qR ?_
  refine qB (fun h=>?_) fun h=>?_
  ·refine qB (fun h2=>?_) fun h2=>?_
   ·rw [fM (by simp;omega),List.getElem_take] at hi3
    have hcm:=TagD.cmp k.tags[i] t
    simp only [TagD.cs,go_sem] at hcm
    refine qX ?_
    refine qD [0,1,2,3,4,5,6] ?_
    refine⟨qC,ac 400 ?_⟩
    try simp (disch:=omega) only [go_sem,seval,hcm]
    refine qB (fun h3=>?_) fun h3=>?_
    ·rw [decide_eq_true h3,Bool.true_or] at hi3
     subst hi3
     refine qX ?_
     exact qF (qI 0 2)
    rw [decide_eq_false h3,Bool.false_or] at hi3
    exact qN hN (i+1) (qI 0 4) (by (try dsimp only);exact⟨by omega,by omega,hi3⟩)
   rw [fu (by simp;omega)] at hi3
   subst hi3
   refine qX ?_
   exact qF (qI 0 2)
  rw [fu (by simp;omega)] at hi3
  subst hi3
  refine qX ?_
  exact qF (qI 0 2)
 have b1':=of_decide_eq_true b1
 have hR':R=true:=by rw [hR,ht];simp [b1']
 subst hR'
 refine qX ?_
 exact qF (qI 0 2)
theorem ch (l:List LetterD) (hl:l.length<=1048576):aP 121 [.sc (.sl 0 0 l.length)] [some ⟨l.map LetterD.cs,19,48,false,true⟩] (.sc (.sl 1 0 l.length)) [some ⟨l.map LetterD.cs,19,48,false,true⟩,some ⟨l.map LetterD.cs,19,48,true,true⟩]:=by
 refine qE Tryz.func121 Tryz.ntmps121 Tryz.results121 fun E hE=>?_
 exact qF (qI 0 1++qI 2 1)
theorem d2 (k:KnownD) (h0:k.keys.length<=1048576) (h1:k.tags.length<=1048576):aP 122 [.ag (k.cs 0)] (k.hp false) (.ag (k.cs 2)) (k.hp false++k.hp true):=by
 refine qE Tryz.func122 Tryz.ntmps122 Tryz.results122 fun E hE=>?_
 refine aO [(2,3)] [[0,1,4,5,2,3,6,7,8],[0,1,4,5,3,2,6,7,8]] (by kernel_rfl) (qC) (by kernel_rfl) ?_
 simp only [bm]
 refine⟨aa 400 ?_,aa 400 ?_⟩
 all_goals simp (disch:=omega) only [go_sem,seval]
 ·refine aQ (iK k.keys h0) (qI 0 1) ?_
  refine qG ?_
  exact qF (qI 0 2++qI 4 1++qI 6 1)
 refine aQ (iK k.keys h0) (qI 0 1) ?_
 refine qG ?_
 exact qF (qI 0 2++qI 5 2)
theorem fz (k:KnownD) (t:TagD) (h0:k.keys.length<=1048576) (h1:k.tags.length<=1048576):aP 137 [.ag (k.cs 0),.ag t.cs] (k.hp false) (.ag ((ez k t).cs 2)) (k.hp false++(ez k t).hp true):=by
 have hM:=ns k t h0 h1
 have ht:=AG (k:=k) (t:=t)
 have hf1:=za (k:=k) (t:=t)
 have hf2:=zb (k:=k) (t:=t)
 generalize ez k t=R at*
 refine qE Tryz.func137 Tryz.ntmps137 Tryz.results137 fun E hE=>?_
 refine qK (d2 k h0 h1) (qI 0 2) ?_
 refine qK (hM) (qI 0 2) ?_
 refine qB (fun b1=>?_) fun b1=>?_
 ·refine qB (fun b2=>?_) fun b2=>?_
  ·rw [ht b1 (by omega)]
   have e:=AF k.tags t
   simp only [TagD.cs] at e
   try simp (disch:=omega) only [go_sem,seval,e]
   refine qP (qI 0 2++qI 5 1++qI 9 1) ?_
   first|exact⟨⟩|simp
  rw [hf2 (by omega)]
  refine qX ?_
  exact qF (qI 0 2++qI 5 2)
 rw [hf1 b1]
 refine qX ?_
 exact qF (qI 0 2++qI 5 2)
theorem Ij {e:EndD} {n:Int} (h:Du e n=false):iA e n=(e,[]):=if_neg (by simp [h])
theorem Ik {e:EndD} {n:Int} {i:Nat} (h:Du e n=true) (hi:aG e.own n=(i:Int)) (hl:i < e.own.length):
  iA e n=({ e with own:=(be e.own n).1,done:=gf e.done n,subs:=e.subs.map (Dt e.own[i].addr) },(j0 (e.subs.map (Dt e.own[i].addr))).map fun k=>Bj n (aN (e.subs.map (Dt e.own[i].addr)) k)):=by
 rw [iA,if_pos h,ic,hi,Int.toNat_natCast,hV hl]
theorem Fe {e:EndD} (h:af e=true):e.done.length<=256:=(oW h).1
theorem v8 (e:EndD) (n:Int) (hs:Small e):aP 255 [.ag (e.cs 0),.sc (.int .i64 n)] (e.hp false) (.tu [.ag ((iA e n).1.cs 7),.sc (.sl 14 0 (iA e n).2.length)])
  (e.hp false++((iA e n).1.hp true++[some ⟨(iA e n).2.map LetterD.cs,19,48,true,true⟩])):=by
 have hC:=(qH (aj e))
 have hK:=(qH (au e))
 have hA:=cm e.own n (by have:=hs.own;omega)
 have hD:=nN e.own n (by have:=hs.own;omega)
 have hsb:=hs.subs
 have hso:=hs.own
 have hbd:=fQ e.own n
 have hf:=Ij (e:=e) (n:=n)
 have ht:= @Ik e n
 have hok:Du e n=(af e && decide (e.state=2) && decide (0<=aG e.own n)):=rfl
 obtain⟨R,hR⟩:∃ R,R=iA e n:=⟨_,rfl⟩
 rw [<-hR] at hf ht
 rw [<-hR]
 clear hR
 refine gU Tryz.func255 Tryz.ntmps255 Tryz.results255 fun E hE=>?_
 refine qK (hC) (qI 0 7) ?_
 refine qK (hA) (qI 0 1) ?_
 rcases hbd with hi0|⟨hi0,hi1⟩
 ·rw [hf (by rw [hok,hi0];simp)]
  rw [hi0]
  refine qX ?_
  refine qK (hK) (qI 0 7) ?_
  refine qB (fun h1=>?_) fun h1=>?_
  ·refine qB (fun h2=>?_) fun h2=>?_
   ·refine qX ?_
    exact dk (qI 0 7++qI 9 7++qI 17 1)
   refine qX ?_
   exact dk (qI 0 7++qI 9 7++qI 17 1)
  refine qX ?_
  exact dk (qI 0 7++qI 9 7++qI 17 1)
 obtain⟨i,hi⟩:=Int.eq_ofNat_of_zero_le hi0
 have hil:i < e.own.length:=by omega
 rw [hi]
 refine qX ?_
 refine qK (hK) (qI 0 7) ?_
 refine qB (fun h1=>?_) fun h1=>?_
 ·refine qB (fun h2=>?_) fun h2=>?_
  ·have hR:=ht (by rw [hok,h1,h2,hi];simp) hi hil
   have hdl:(be e.own n).1.length<=e.own.length:=by rw [mG hi];simp;omega
   have hgo:=aT (enc:=AddrD.cs) hil
   generalize hv:e.own[i].addr=v at hR
   try simp (disch:=omega) only [go_sem,seval,hgo,hv]
   refine qK (rI e.done n (by have:=Fe h1;omega)) (qI 5 1) ?_
   refine qK (hD) (qI 0 1) ?_
   refine ju 7 hE (fun s (k:Nat)=>s.at (qU [0,1,13,60]) [(9,.sc (.int .i64 (k:Nat)))] (s.hp.set 11 (some ⟨(cd (Dt v) e.subs k).map SubD.cs,10,101,true,true⟩))) (fun (k:Nat)=>k<=e.subs.length) (fun (k:Nat)=>e.subs.length - k) 0 (qI 0 20) (qC) (Nat.zero_le _) (ab (by rfl) (by rfl) ?_) fun k hk N hN=>?_
   ·refine qX ?_
    rw [uC]
   refine ac 400 ?_
   have hgl:(cd (Dt v) e.subs k).length=e.subs.length:=xh
   refine qX ?_
   refine qB (fun h=>?_) fun h=>?_
   ·have hg:=xi (f:=Dt v) h
    try simp (disch:=omega) only [go_sem,seval,hg]
    refine qD [0,1,2,3,4,5,6,7,8,9,10,11,12,13] ?_
    refine⟨qC,ac 400 ?_⟩
    try simp (disch:=omega) only [go_sem,seval,hg,hgo,hv]
    refine qB (fun h9=>?_) fun h9=>?_
    ·refine qX ?_
     refine⟨qC,hN _ (k+1) (qI 0 20) (by (try dsimp only);exact by omega) (by (try dsimp only);omega) (ab (by rfl) (by rfl) ?_)⟩
     refine qX ?_
     rw [<-xj h,List.map_set]
     simp [Dt,h9,hg,SubD.cs]
    refine qX ?_
    refine⟨qC,hN _ (k+1) (qI 0 20) (by (try dsimp only);exact by omega) (by (try dsimp only);omega) (ab (by rfl) (by rfl) ?_)⟩
    refine qX ?_
    rw [uB h (by rw [Dt,if_neg h9])]
   have hkl:k=e.subs.length:=by omega
   subst hkl
   rw [xk]
   have hdl2:(e.subs.map (Dt v)).length<=1048576:=by rw [List.length_map];exact hsb
   have hO:=oK { e with own:=(be e.own n).1,done:=gf e.done n,subs:=e.subs.map (Dt v) } hdl2
   have hlen:(e.subs.map (Dt v)).length=e.subs.length:=List.length_map ..
   generalize hDD:e.subs.map (Dt v)=D at*
   clear hDD
   rw [<-hlen]
   refine qX ?_
   refine qK (hO) (qI 19 1++qI 10 4++qI 18 1++qI 15 1) ?_
   have honl:=pO D
   refine tD 7 hE (fun s (y:Nat×List LetterD)=>s.at (qU [0,1,2,1,8,2,12,87]) [(11,.sc (.int .i64 (y.1:Nat))),(7,.sc (.sl 17 0 y.2.length))] (s.hp.set 17 (some ⟨y.2.map LetterD.cs,19,48,true,true⟩))) (fun (y:Nat×List LetterD)=>y.1<=(j0 D).length/\y.2.length<=y.1/\R=({ e with own:=(be e.own n).1,done:=gf e.done n,subs:=D },y.2++((j0 D).drop y.1).map fun k=>Bj n (aN D k))) (fun (y:Nat×List LetterD)=>(j0 D).length - y.1) (0,[]) (qI 0 21) (⟨Nat.zero_le _,Nat.zero_le _,hR⟩) fun y hy N2 hN2=>?_
   obtain⟨q,l⟩:=y
   obtain⟨g1,g2,g3⟩:=hy
   dsimp only at g1 g2 g3
   refine qR ?_
   refine qB (fun b=>?_) fun b=>?_
   ·have hkq:=yD b
    rw [List.drop_eq_getElem_cons b,List.map_cons] at g3
    have hgq:=aT (enc:=pM) b
    generalize hk0:(j0 D)[q]=k0 at*
    rw [bW hkq] at g3
    have hgs:=aT (enc:=SubD.cs) hkq
    generalize hss:D[k0]=s0 at*
    have hB:=aw s0.road { ah with kind:=10,sgn:=s0.give,id:=n }
    refine qX ?_
    refine qD [0,1,2,3,4,5,6,7,8,9] ?_
    try simp (disch:=omega) only [go_sem,seval,hgq,hk0,pM,hgs,hss]
    refine qG ?_
    refine qK (hB) [] ?_
    refine⟨qC,hN2 _ (q+1,l++[Bj n s0]) (qI 0 17++qI 23 1++qI 18 3) (by (try dsimp only);exact⟨by omega,by simp;omega,by simpa using g3⟩) (by (try dsimp only);omega) (ab (by rfl) (by rfl) ?_)⟩
    refine qX ?_
    rw [List.map_append]
    rfl
   rw [List.drop_eq_nil_of_le (by omega),List.map_nil,List.append_nil] at g3
   subst g3
   refine qX ?_
   exact dk (qI 0 7++qI 19 1++qI 10 4++qI 18 1++qI 15 1++qI 17 1)
  rw [hf (by rw [hok];simp [h2])]
  refine qX ?_
  exact dk (qI 0 7++qI 9 7++qI 17 1)
 rw [hf (by rw [hok];simp [h1])]
 refine qX ?_
 exact dk (qI 0 7++qI 9 7++qI 17 1)
end
end Go.Proofs.YtjghbknhneffjaaGreat
