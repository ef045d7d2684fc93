/-
  Texts merged for this claim by shake.py: what its proof needs.
-/
import Derived.Test.YtjghbknhneffjaaGreatZFnB2K
import Derived.Test.YtjghbknhneffjaaGreatZFnB2L
set_option maxHeartbeats 16000000
set_option maxRecDepth 100000
set_option linter.unusedVariables false
set_option linter.unusedSimpArgs false
namespace Go.Proofs.YtjghbknhneffjaaGreat
section
open Go.RowKit
section
variable {P:Program} {β:Be} {s:S} {a:Act} {w:World} {o:Oper} {r:OpR} {ty:TypeId}
end
end
section
open Go.RowKit
def hJ:WorldD:=⟨dw,dw,[],[],[],[],[],[],⟨[],[]⟩,[],[],[]⟩
def fx (p:PolicyD):WorldD×Bool:=
 if (i3 1 11 p).2 && (i3 2 21 p).2 then
  ({ hJ with a:=(pX (i3 1 11 p).1 (i3 2 21 p).1).1,b:=(pX (i3 1 11 p).1 (i3 2 21 p).1).2.1,known:=⟨[5,7],[]⟩},true)
 else (hJ,false)
theorem HX {n:Int}:gA n=true↔N9 n:=by simp [gA,N9]
theorem u0 {r:RoadD}:ms r=true↔RN r:=by simp [ms,RN,HX,and_assoc]
theorem g9 {a b:RoadD}:dM a b=true↔a=b:=⟨oM,fun h=>by subst h;simp [dM]⟩
theorem Hg {l:List Int} {t:List AddrD}:oH l t=true↔IdOk l t:=by
 simp only [oH,Bool.and_eq_true]
 constructor
 ·rintro⟨h1,h2⟩
  have hc:∀ (j:Nat) (hj:j+1 < l.length),l[j] < l[j+1]:=by
   intro j hj
   have:=iz h1 hj
   simp only [cK,Bool.or_eq_true,beq_iff_eq,decide_eq_true_eq,Nat.add_sub_cancel,A1 hj,A1 (show j < l.length by omega)] at this
   rcases this with h|h
   ·omega
   exact h
  have hid:∀ (j i:Nat) (hj:j < l.length) (hi:i < j),l[i] < l[j]:=by
   intro j
   induction j with
   |zero=>intro i hj hi;omega
   |succ j ih=>
    intro i hj hi
    have h3:=hc j hj
    by_cases hij:i=j
    ·subst hij;exact h3
    have:=ih i (by omega) (by omega);omega
  refine⟨?_,fun n hn=>?_⟩
  ·rw [List.pairwise_iff_getElem]
   intro i j hi hj hij
   exact hid j i hj hij
  obtain⟨j,hj,rfl⟩:=List.getElem_of_mem hn
  have:=iz h2 hj
  simp only [fE,Bool.and_eq_true,vP,decide_eq_true_eq,A1 hj] at this
  exact⟨this.1,uR.1 this.2⟩
 rintro⟨h1,h2⟩
 rw [List.pairwise_iff_getElem] at h1
 refine⟨ed fun j hj=>?_,ed fun j hj=>?_⟩
 ·simp only [cK,Bool.or_eq_true,beq_iff_eq,decide_eq_true_eq]
  rcases Nat.eq_zero_or_pos j with h0|h0
  ·exact .inl h0
  refine .inr ?_
  rw [A1 hj,A1 (show j - 1 < l.length by omega)]
  exact h1 (j - 1) j (by omega) hj (by omega)
 have:=h2 l[j] (List.getElem_mem hj)
 simp only [fE,Bool.and_eq_true,vP,decide_eq_true_eq,A1 hj]
 exact⟨this.1,uR.2 this.2⟩
theorem Gr {l:List Int} {n:Int}:n∈gf l n:=by
 rw [gf];split
 ·rename_i h
  obtain⟨h1,h2⟩:=h
  rw [A1 h1] at h2
  rw [<-h2];exact List.getElem_mem _
 simp
theorem Gs {l:List Int} {n x:Int} (h:x∈l):x∈gf l n:=by
 rw [gf];split
 ·exact h
 have:=List.take_append_drop (gd l n) l
 rw [<-this] at h
 rcases List.mem_append.1 h with h|h
 ·exact List.mem_append_left _ (List.mem_append_left _ h)
 exact List.mem_append_right _ h
theorem E2 {l:List HalfD}:cv l=true↔HaOk l:=by
 simp only [cv,Bool.and_eq_true,decide_eq_true_eq]
 have hat:∀ (j:Nat) (hj:j < l.length),a_ l l[j].road=(j:Int)↔∀ (i:Nat) (hi:i < j),¬ l[i].road=l[j].road:=by
  intro j hj
  rw [a_,xE]
  constructor
  ·rintro⟨_,_,h⟩ i hi
   have:=h i hi
   intro hc
   rw [hc,g9.2 rfl] at this
   cases this
  intro h
  exact⟨hj,g9.2 rfl,fun i hi=>by
   cases hq:dM l[i].road l[j].road with
   |false=>rfl
   |true=>exact absurd (g9.1 hq) (h i hi)⟩
 have hel:∀ (j:Nat) (hj:j < l.length),fO l j=true↔HaE l[j]/\a_ l l[j].road=(j:Int):=by
  intro j hj
  simp only [fO,tG hj,Bool.and_eq_true,u0,List.all_cons,List.all_nil,HX,beq_iff_eq,and_true,HaE]
 constructor
 ·rintro⟨h1,h2⟩
  have hu:=fun (j:Nat) (hj:j < l.length)=>(hel j hj).1 (iz h2 hj)
  refine⟨by omega,fun h hh=>?_,?_⟩
  ·obtain⟨j,hj,rfl⟩:=List.getElem_of_mem hh
   exact (hu j hj).1
  rw [List.pairwise_iff_getElem]
  intro i j hi hj hij
  exact (hat j hj).1 (hu j hj).2 i hij
 rintro⟨h1,h2,h3⟩
 rw [List.pairwise_iff_getElem] at h3
 exact⟨by omega,ed fun j hj=>(hel j hj).2 ⟨h2 _ (List.getElem_mem hj),(hat j hj).2 fun i hi=>h3 i j (by omega) hj hi⟩⟩
theorem HaOk.young {l:List HalfD} {n:Int} (h:HaOk l):HaOk (bx l n):=h.sub List.filter_sublist
theorem FN {l:List SubD} {r:RoadD}:aU l r < 0↔∀ s∈l,s.state=4\/¬ s.road=r:=by
 rw [aU,xF]
 refine forall_congr' fun s=>forall_congr' fun hs=>?_
 by_cases h1:s.state=4
 ·simp [h1]
 by_cases h2:s.road=r
 ·subst h2;simp [h1,g9]
 have:dM s.road r=false:=by
  cases hq:dM s.road r with
  |false=>rfl
  |true=>exact absurd (g9.1 hq) h2
 simp [this,h2]
theorem EV {l:List SubD} {r:RoadD} {n:Nat}:aU l r=(n:Int)↔∃ h:n < l.length,¬ l[n].state=4/\l[n].road=r/\∀ (i:Nat) (hi:i < n),l[i].state=4\/¬ l[i].road=r:=by
 rw [aU,xE]
 refine exists_congr fun h=>?_
 have hp:∀ s:SubD,(s.state != 4 && dM s.road r)=false↔s.state=4\/¬ s.road=r:=by
  intro s
  by_cases h1:s.state=4
  ·simp [h1]
  cases hq:dM s.road r with
  |false=>simp [h1,show ¬ s.road=r from fun hc=>by rw [g9.2 hc] at hq;cases hq]
  |true=>simp [h1,g9.1 hq]
 simp only [hp]
 rw [<-and_assoc]
 refine and_congr_left fun _=>?_
 simp [g9]
theorem GM {l:List SubD}:dy (cz l) l.length=true↔SuOk l:=by
 have hel:∀ (j:Nat) (hj:j < l.length),cz l j=true↔SuE l[j]/\(l[j].state=4\/aU l l[j].road=(j:Int)):=by
  intro j hj
  simp only [cz,ke hj,Bool.and_eq_true,vP,u0,List.all_cons,List.all_nil,HX,beq_iff_eq,and_true,Bool.or_eq_true,SuE]
  constructor
  ·rintro⟨⟨⟨a,b⟩,c⟩,d⟩;exact⟨⟨a,b,c⟩,d⟩
  rintro⟨⟨a,b,c⟩,d⟩;exact⟨⟨⟨a,b⟩,c⟩,d⟩
 constructor
 ·intro h2
  have hu:=fun (j:Nat) (hj:j < l.length)=>(hel j hj).1 (iz h2 hj)
  refine⟨fun s hs=>?_,?_⟩
  ·obtain⟨j,hj,rfl⟩:=List.getElem_of_mem hs
   exact (hu j hj).1
  rw [List.pairwise_iff_getElem]
  intro i j hi hj hij
  rcases (hu j hj).2 with h|h
  ·exact .inr (.inl h)
  obtain⟨_,_,_,h⟩:=EV.1 h
  rcases h i hij with h|h
  ·exact .inl h
  exact .inr (.inr h)
 rintro⟨h2,h3⟩
 rw [List.pairwise_iff_getElem] at h3
 refine ed fun j hj=>(hel j hj).2 ⟨h2 _ (List.getElem_mem hj),?_⟩
 by_cases h4:l[j].state=4
 ·exact .inl h4
 refine .inr (EV.2 ⟨hj,h4,rfl,fun i hi=>?_⟩)
 rcases h3 i j (by omega) hj hi with h|h|h
 ·exact .inl h
 ·exact absurd h h4
 exact .inr h
theorem SuOk.st4 {l:List SubD} {n:Nat} (h:SuOk l) (hn:n < l.length):SuOk (bP l n 4):=by
 rw [gW hn]
 exact h.set hn ((h.el _ (List.getElem_mem hn)).st (by omega)) rfl fun _=>rfl
theorem p5 {e:EndD}:af e=true↔OkE e:=by
 simp only [af,Bool.and_eq_true,vP,sM,E2,Hg,GM,List.all_cons,List.all_nil,HX,decide_eq_true_eq,and_true]
 constructor
 ·rintro⟨⟨⟨⟨⟨⟨⟨⟨⟨⟨⟨⟨⟨a1,a2⟩,a3⟩,a4⟩,a5⟩,a6⟩,a7⟩,a8⟩,a9⟩,a10⟩,a11⟩,a12⟩,a13⟩,a14⟩
  exact⟨a1,a2,a3,a4,a5,a6,a7,a8,a9,a10,a11,by omega,a13,a14⟩
 rintro⟨a1,a2,a3,a4,a5,a6,a7,a8,a9,a10,a11,a12,a13,a14⟩
 exact⟨⟨⟨⟨⟨⟨⟨⟨⟨⟨⟨⟨⟨a1,a2⟩,a3⟩,a4⟩,a5⟩,a6⟩,a7⟩,a8⟩,a9⟩,a10⟩,a11⟩,by omega⟩,a13⟩,a14⟩
theorem v2 {x:LetterD} (h:dZ x=true):N9 x.frm/\N9 x.to/\N9 x.port/\N9 x.nonce/\N9 x.give/\N9 x.sgn/\N9 x.id/\N9 x.addr/\N9 x.pos:=by
 simp only [dZ,bj,iv,List.all_cons,List.all_nil,gA,Bool.and_eq_true,decide_eq_true_eq,Bool.and_true] at h
 simp only [N9]
 omega
attribute [go_sem] List.append_eq
theorem ub (l:List AddrD) (hl:l.length<=4611686018427387904):aP 20 [.sc (.sl 0 0 l.length),.sc (.sl 1 0 l.length)] [some ⟨l.map AddrD.cs,4,103,false,true⟩,some ⟨l.map AddrD.cs,4,103,false,true⟩] (.sc (.bo true)) [some ⟨l.map AddrD.cs,4,103,false,true⟩,some ⟨l.map AddrD.cs,4,103,false,true⟩]:=by
 refine qE Tryz.func20 Tryz.ntmps20 Tryz.results20 fun E hE=>?_
 refine jx 2 hE (fun s (k:Nat)=>s.at (qU [4,1,6,20]) [(5,.sc (.int .i64 (k:Nat)))] (s.hp)) (fun (k:Nat)=>k<=l.length) (fun (k:Nat)=>l.length - k) 0 (qI 0 2) (Nat.zero_le _) fun k hk N hN=>?_
 refine qR ?_
 refine qB (fun h=>?_) fun h=>?_
 ·refine qD [0,1,2,3,4,5,6,7,8] ?_
  refine qG ?_
  exact qN hN (k+1) (qI 0 2) (by (try dsimp only);exact h)
 exact qF (qI 0 2)
theorem FJ (l:List SubD) (hl:l.length<=4611686018427387904):aP 138 [.sc (.sl 0 0 l.length),.sc (.sl 1 0 l.length)] [some ⟨l.map SubD.cs,10,101,false,true⟩,some ⟨l.map SubD.cs,10,101,false,true⟩] (.sc (.bo true)) [some ⟨l.map SubD.cs,10,101,false,true⟩,some ⟨l.map SubD.cs,10,101,false,true⟩]:=by
 refine qE Tryz.func138 Tryz.ntmps138 Tryz.results138 fun E hE=>?_
 refine jx 2 hE (fun s (k:Nat)=>s.at (qU [4,1,6,20]) [(5,.sc (.int .i64 (k:Nat)))] (s.hp)) (fun (k:Nat)=>k<=l.length) (fun (k:Nat)=>l.length - k) 0 (qI 0 2) (Nat.zero_le _) fun k hk N hN=>?_
 refine qR ?_
 refine qB (fun h=>?_) fun h=>?_
 ·refine qD [0,1,2,3,4,5,6,7,8] ?_
  refine qG ?_
  exact qN hN (k+1) (qI 0 2) (by (try dsimp only);exact h)
 exact qF (qI 0 2)
theorem FA (l:List HalfD) (hl:l.length<=4611686018427387904):aP 139 [.sc (.sl 0 0 l.length),.sc (.sl 1 0 l.length)] [some ⟨l.map HalfD.cs,8,121,false,true⟩,some ⟨l.map HalfD.cs,8,121,false,true⟩] (.sc (.bo true)) [some ⟨l.map HalfD.cs,8,121,false,true⟩,some ⟨l.map HalfD.cs,8,121,false,true⟩]:=by
 refine qE Tryz.func139 Tryz.ntmps139 Tryz.results139 fun E hE=>?_
 refine jx 2 hE (fun s (k:Nat)=>s.at (qU [4,1,6,20]) [(5,.sc (.int .i64 (k:Nat)))] (s.hp)) (fun (k:Nat)=>k<=l.length) (fun (k:Nat)=>l.length - k) 0 (qI 0 2) (Nat.zero_le _) fun k hk N hN=>?_
 refine qR ?_
 refine qB (fun h=>?_) fun h=>?_
 ·refine qD [0,1,2,3,4,5,6,7,8] ?_
  refine qG ?_
  exact qN hN (k+1) (qI 0 2) (by (try dsimp only);exact h)
 exact qF (qI 0 2)
theorem v5 (l:List PieceD) (hl:l.length<=4611686018427387904):aP 77 [.sc (.sl 0 0 l.length),.sc (.sl 1 0 l.length)] [some ⟨l.map PieceD.cs,2,150,false,true⟩,some ⟨l.map PieceD.cs,2,150,false,true⟩] (.sc (.bo true)) [some ⟨l.map PieceD.cs,2,150,false,true⟩,some ⟨l.map PieceD.cs,2,150,false,true⟩]:=by
 refine qE Tryz.func77 Tryz.ntmps77 Tryz.results77 fun E hE=>?_
 refine jx 2 hE (fun s (k:Nat)=>s.at (qU [4,1,6,20]) [(5,.sc (.int .i64 (k:Nat)))] (s.hp)) (fun (k:Nat)=>k<=l.length) (fun (k:Nat)=>l.length - k) 0 (qI 0 2) (Nat.zero_le _) fun k hk N hN=>?_
 refine qR ?_
 refine qB (fun h=>?_) fun h=>?_
 ·refine qD [0,1,2,3,4,5,6,7,8] ?_
  refine qG ?_
  exact qN hN (k+1) (qI 0 2) (by (try dsimp only);exact h)
 exact qF (qI 0 2)
theorem sz (l:List LetterD) (hl:l.length<=4611686018427387904):aP 70 [.sc (.sl 0 0 l.length),.sc (.sl 1 0 l.length)] [some ⟨l.map LetterD.cs,19,48,false,true⟩,some ⟨l.map LetterD.cs,19,48,false,true⟩] (.sc (.bo true)) [some ⟨l.map LetterD.cs,19,48,false,true⟩,some ⟨l.map LetterD.cs,19,48,false,true⟩]:=by
 refine qE Tryz.func70 Tryz.ntmps70 Tryz.results70 fun E hE=>?_
 refine jx 2 hE (fun s (k:Nat)=>s.at (qU [4,1,6,20]) [(5,.sc (.int .i64 (k:Nat)))] (s.hp)) (fun (k:Nat)=>k<=l.length) (fun (k:Nat)=>l.length - k) 0 (qI 0 2) (Nat.zero_le _) fun k hk N hN=>?_
 refine qR ?_
 refine qB (fun h=>?_) fun h=>?_
 ·refine qD [0,1,2,3,4,5,6,7,8] ?_
  refine qG ?_
  exact qN hN (k+1) (qI 0 2) (by (try dsimp only);exact h)
 exact qF (qI 0 2)
theorem FK (l:List TagD) (hl:l.length<=4611686018427387904):aP 140 [.sc (.sl 0 0 l.length),.sc (.sl 1 0 l.length)] [some ⟨l.map TagD.cs,5,46,false,true⟩,some ⟨l.map TagD.cs,5,46,false,true⟩] (.sc (.bo true)) [some ⟨l.map TagD.cs,5,46,false,true⟩,some ⟨l.map TagD.cs,5,46,false,true⟩]:=by
 refine qE Tryz.func140 Tryz.ntmps140 Tryz.results140 fun E hE=>?_
 refine jx 2 hE (fun s (k:Nat)=>s.at (qU [4,1,6,20]) [(5,.sc (.int .i64 (k:Nat)))] (s.hp)) (fun (k:Nat)=>k<=l.length) (fun (k:Nat)=>l.length - k) 0 (qI 0 2) (Nat.zero_le _) fun k hk N hN=>?_
 refine qR ?_
 refine qB (fun h=>?_) fun h=>?_
 ·refine qD [0,1,2,3,4,5,6,7,8] ?_
  refine qG ?_
  exact qN hN (k+1) (qI 0 2) (by (try dsimp only);exact h)
 exact qF (qI 0 2)
theorem ft (l:List Int) (hl:l.length<=4611686018427387904):aP 17 [.sc (.sl 0 0 l.length),.sc (.sl 1 0 l.length)] [some ⟨l.map aM,1,3,false,true⟩,some ⟨l.map aM,1,3,false,true⟩] (.sc (.bo true)) [some ⟨l.map aM,1,3,false,true⟩,some ⟨l.map aM,1,3,false,true⟩]:=by
 refine qE Tryz.func17 Tryz.ntmps17 Tryz.results17 fun E hE=>?_
 refine jx 2 hE (fun s (k:Nat)=>s.at (qU [4,1,6,20]) [(5,.sc (.int .i64 (k:Nat)))] (s.hp)) (fun (k:Nat)=>k<=l.length) (fun (k:Nat)=>l.length - k) 0 (qI 0 2) (Nat.zero_le _) fun k hk N hN=>?_
 refine qR ?_
 refine qB (fun h=>?_) fun h=>?_
 ·refine qD [0,1,2,3,4,5,6,7,8] ?_
  refine qG ?_
  exact qN hN (k+1) (qI 0 2) (by (try dsimp only);exact h)
 exact qF (qI 0 2)
theorem E7 (x:PiecesD) (hl:x.list.length<=4611686018427387904):aP 21 [.ag (x.cs 0),.ag (x.cs 1)] (x.hp false++x.hp false) (.sc (.bo true)) (x.hp false++x.hp false):=by
 refine qE Tryz.func21 Tryz.ntmps21 Tryz.results21 fun E hE=>?_
 refine qK (v5 x.list hl) (qI 0 2) ?_
 exact qF (qI 0 2)
theorem Gc (e:EndD) (h0:e.own.length<=1048576) (h1:e.far.length<=1048576) (h2:e.subs.length<=1048576) (h3:e.halfs.length<=1048576) (h4:e.inp.list.length<=1048576) (h5:e.done.length<=1048576) (h6:e.over.length<=1048576):aP 69 [.ag (e.cs 0),.ag (e.cs 7)] (e.hp false++e.hp false) (.sc (.bo true)) (e.hp false++e.hp false):=by
 refine qE Tryz.func69 Tryz.ntmps69 Tryz.results69 fun E hE=>?_
 refine qK (ub e.own (by omega)) (qI 0 1++qI 7 1) ?_
 refine qK (ub e.far (by omega)) (qI 1 1++qI 8 1) ?_
 refine qK (FJ e.subs (by omega)) (qI 2 1++qI 9 1) ?_
 refine qK (FA e.halfs (by omega)) (qI 3 1++qI 10 1) ?_
 refine qK (E7 e.inp (by omega)) (qI 4 1++qI 11 1) ?_
 refine qK (ft e.done (by omega)) (qI 5 1++qI 12 1) ?_
 refine qK (ft e.over (by omega)) (qI 6 1++qI 13 1) ?_
 exact qF (qI 0 14)
theorem FB (x:KnownD) (h0:x.keys.length<=1048576) (h1:x.tags.length<=1048576):aP 71 [.ag (x.cs 0),.ag (x.cs 2)] (x.hp false++x.hp false) (.sc (.bo true)) (x.hp false++x.hp false):=by
 refine qE Tryz.func71 Tryz.ntmps71 Tryz.results71 fun E hE=>?_
 refine qK (ft x.keys (by omega)) (qI 0 1++qI 2 1) ?_
 refine qK (FK x.tags (by omega)) (qI 1 1++qI 3 1) ?_
 exact qF (qI 0 4)
end
section
open Go
def un (R:Nat) (g:Nat):Nat:=(R >>> (10*g)) % 1024
def H_ (P:Program) (R lo hi:Nat) (g:Nat):Bool:=
 match P.funcs[g]? with
 |none=>true
 |some fn=>((P.leadsTo fn).all fun h=>Nat.blt (un R h) (un R g) && (Nat.ble lo h && Nat.blt h hi)) && (!(fn.ours || fn.body.isNone || fn.name == "runtime.NumGoroutine") && (match fn.body with|some c=> !c.unfollowed && c.globalsNamed.isEmpty|none=>false))
def E9 (P:Program) (R lo hi:Nat) (g:Nat):Bool:=Nat.ble 1000 (un R g) || H_ P R lo hi g
theorem xs {P:Program} {R lo hi g:Nat} (h:E9 P R lo hi g=true) (hr:un R g < 1000):H_ P R lo hi g=true:=by
 unfold E9 at h
 rw [Bool.or_eq_true,Nat.ble_eq] at h
 exact h.resolve_left (by omega)
theorem GD {P:Program} {R lo hi:Nat} (h:∀ g,lo<=g/\g < hi->E9 P R lo hi g=true) {g k:FuncId} (hb:lo<=g/\g < hi) (hr:un R g < 1000) (hk:k∈(P.funcs[g]?).elim [] P.leadsTo):un R k < un R g/\lo<=k/\k < hi:=by
 have hg:=xs (h g hb) hr
 unfold H_ at hg
 cases hf:P.funcs[g]? with
 |none=>rw [hf] at hk;simp at hk
 |some fn=>
  rw [hf] at hg hk
  simp only [Bool.and_eq_true,List.all_eq_true,Nat.blt_eq,Nat.ble_eq] at hg
  exact hg.1 k hk
theorem GE {P:Program} {R lo hi:Nat} (h:∀ g,lo<=g/\g < hi->E9 P R lo hi g=true) (f:FuncId) (hf0:(lo<=f/\f < hi)/\un R f < 1000):P.inPlace f=[]/\P.unfollowed f=false/\P.recurses f=false/\P.varsNamed f=[]:=by
 have hin:∀ k,(lo<=k/\k < hi)/\un R k < 1000->∀ x∈P.closure k,(lo<=x/\x < hi)/\un R x < 1000:=fun k hk=>Bo (S:=fun x=>(lo<=x/\x < hi)/\un R x < 1000) (fun a ha b hb=>⟨(GD h ha.1 ha.2 hb).2,Nat.lt_trans (GD h ha.1 ha.2 hb).1 ha.2⟩) hk
 have hu:P.unfollowed f=false:=by
  unfold Program.unfollowed
  rw [List.any_eq_false]
  intro g hgc
  have hg:=xs (h g (hin f hf0 g hgc).1) (hin f hf0 g hgc).2
  unfold H_ at hg
  cases hf:P.funcs[g]? with
  |none=>simp
  |some fn=>
   rw [hf] at hg
   simp only [Bool.and_eq_true] at hg
   simp only [Option.any_some]
   cases hb:fn.body with
   |none=>rw [hb] at hg;simp at hg
   |some c=>rw [hb] at hg;simp at hg⊢;exact hg.2.2.1
 refine⟨?_,hu,?_,?_⟩
 ·unfold Program.inPlace
  rw [List.filterMap_eq_nil_iff]
  intro g hgc
  have hg:=xs (h g (hin f hf0 g hgc).1) (hin f hf0 g hgc).2
  unfold H_ at hg
  cases hf:P.funcs[g]? with
  |none=>rfl
  |some fn=>
   rw [hf] at hg
   simp only [Bool.and_eq_true,Bool.not_eq_true'] at hg
   simp only [Option.bind_some]
   rw [hg.2.1]
   rfl
 ·unfold Program.recurses
  rw [hu,Bool.false_or,List.any_eq_false]
  intro g hgc
  rw [Bool.not_eq_true,List.any_eq_false]
  intro k hk
  rw [Bool.not_eq_true]
  obtain⟨h1,hkb⟩:=GD h (hin f hf0 g hgc).1 (hin f hf0 g hgc).2 hk
  have hkr:un R k < 1000:=Nat.lt_trans h1 (hin f hf0 g hgc).2
  have h2:∀ x∈P.closure k,un R x<=un R k/\lo<=x/\x < hi:=Bo (S:=fun x=>un R x<=un R k/\lo<=x/\x < hi) (fun a ha b hb=>⟨Nat.le_trans (Nat.le_of_lt (GD h ha.2 (by omega) hb).1) ha.1,(GD h ha.2 (by omega) hb).2⟩) ⟨Nat.le_refl _,hkb⟩
  cases hc:(P.closure k).contains g with
  |false=>rfl
  |true=>
   have:=(h2 g (List.contains_iff_mem.1 hc)).1
   omega
 unfold Program.varsNamed
 have e1:((P.closure f).flatMap fun g=>((P.funcs[g]?).bind (·.body)).elim [] Code.globalsNamed)=[]:=by
  rw [List.flatMap_eq_nil_iff]
  intro g hgc
  have hg:=xs (h g (hin f hf0 g hgc).1) (hin f hf0 g hgc).2
  unfold H_ at hg
  cases hf:P.funcs[g]? with
  |none=>rfl
  |some fn=>
   rw [hf] at hg
   simp only [Bool.and_eq_true] at hg
   simp only [Option.bind_some]
   cases hb:fn.body with
   |none=>rfl
   |some c=>rw [hb] at hg;simp at hg⊢;exact hg.2.2.2
 have e2:((P.closure f).filterMap fun g=>(P.funcs[g]?).bind fun fn=>if fn.body.isNone then entryReads.lookup fn.name else none)=[]:=by
  rw [List.filterMap_eq_nil_iff]
  intro g hgc
  have hg:=xs (h g (hin f hf0 g hgc).1) (hin f hf0 g hgc).2
  unfold H_ at hg
  cases hf:P.funcs[g]? with
  |none=>rfl
  |some fn=>
   rw [hf] at hg
   simp only [Bool.and_eq_true] at hg
   simp only [Option.bind_some]
   cases hb:fn.body with
   |none=>rw [hb] at hg;simp at hg
   |some c=>rfl
 rw [e1,e2]
 rfl
theorem Hr {P:Program} {f:FuncId} {fn:Func} {s:ChangeSpec} {c:OpenClaim} (g:P.inPlace f=[]/\P.unfollowed f=false/\P.recurses f=false/\P.varsNamed f=[]) (c1:c.inPlace=[]) (c2:c.unfollowed=false) (c3:c.recurses=false) (c4:c.named=[])
  (m1:P.mayEnter=true) (m2:P.liftsFinal=false) (m3:P.make=some .cut) (d2:c.lifted=false) (d3:c.make=.cut) (h:Cj P f fn s c=true):joinedFacts P f fn s c=true:=by
 obtain⟨g1,g2,g3,g4⟩:=g
 unfold Cj at h
 unfold joinedFacts
 simp only [Bool.and_eq_true] at h⊢
 obtain⟨⟨⟨⟨⟨⟨⟨⟨⟨⟨⟨⟨⟨⟨⟨⟨⟨⟨⟨⟨⟨⟨⟨⟨k1,k2⟩,k3⟩,k4⟩,k5⟩,k6⟩,k7⟩,k8⟩,k9⟩,k14⟩,k15⟩,k16⟩,k17⟩,k17b⟩,k18⟩,k19⟩,k20⟩,k21⟩,k22⟩,k23⟩,k23b⟩,k25⟩,k26⟩,k27⟩,k28⟩:=h
 refine⟨⟨⟨⟨⟨⟨⟨⟨⟨⟨⟨⟨⟨⟨⟨⟨⟨⟨⟨⟨⟨⟨⟨⟨⟨⟨⟨⟨⟨⟨⟨k1,k2⟩,k3⟩,k4⟩,k5⟩,k6⟩,k7⟩,k8⟩,k9⟩,?_⟩,?_⟩,?_⟩,?_⟩,k14⟩,k15⟩,k16⟩,k17⟩,k17b⟩,k18⟩,k19⟩,k20⟩,k21⟩,k22⟩,k23⟩,k23b⟩,m1⟩,?_⟩,?_⟩,k25⟩,k26⟩,k27⟩,k28⟩
 ·rw [c1,g1];rfl
 ·rw [c2,g2];rfl
 ·rw [c3,g3];rfl
 ·rw [c4,g4];rfl
 ·rw [d2,m2];rfl
 rw [d3,m3];exact beq_self_eq_true _
end
section
open Go
def FL:Nat:=1799743530576795566865501056695624017320885302620131642069987121162515361100033467902552850406931772761286988194433575080812429290764755572092895327244424175097513374805733681717860324056987954907683192474062132780955326270920715452344858482535307899376075615393532403594680460844180638985541582726550961358495062576626090536583761902477174957456911948395488731530735433664940778289407715690097680511153769848384650530170198438030203071214866170890062318327568542544388516172399094796023054825650354670656761298721768880740086685520774746383916379348031785364250180491425858428032304207547958403857377630397078014867181374914133558198476186463010430990787039592400121447893041970223443096027920815982813592993224190404870903408289449686573259812660407001240480247037669585473846832695118771122116312841428836643952421339336289370431158399270709216715886948229551704349154200070437991010415963459010142490036002175318052363613831811432655850143737708544
theorem Iw:(List.range' 3 16).all (E9 Tryz.prog FL 3 301)=true:=by kernel_rfl
theorem Ix:(List.range' 19 16).all (E9 Tryz.prog FL 3 301)=true:=by kernel_rfl
theorem Iy:(List.range' 35 16).all (E9 Tryz.prog FL 3 301)=true:=by kernel_rfl
theorem Iz:(List.range' 51 16).all (E9 Tryz.prog FL 3 301)=true:=by kernel_rfl
theorem IA:(List.range' 67 16).all (E9 Tryz.prog FL 3 301)=true:=by kernel_rfl
theorem IB:(List.range' 83 16).all (E9 Tryz.prog FL 3 301)=true:=by kernel_rfl
theorem IC:(List.range' 99 16).all (E9 Tryz.prog FL 3 301)=true:=by kernel_rfl
theorem ID:(List.range' 115 16).all (E9 Tryz.prog FL 3 301)=true:=by kernel_rfl
theorem IE:(List.range' 131 16).all (E9 Tryz.prog FL 3 301)=true:=by kernel_rfl
theorem IF:(List.range' 147 16).all (E9 Tryz.prog FL 3 301)=true:=by kernel_rfl
theorem Ia:(List.range' 163 16).all (E9 Tryz.prog FL 3 301)=true:=by kernel_rfl
theorem Ib:(List.range' 179 16).all (E9 Tryz.prog FL 3 301)=true:=by kernel_rfl
theorem Ic:(List.range' 195 16).all (E9 Tryz.prog FL 3 301)=true:=by kernel_rfl
theorem Id:(List.range' 211 16).all (E9 Tryz.prog FL 3 301)=true:=by kernel_rfl
theorem Ie:(List.range' 227 16).all (E9 Tryz.prog FL 3 301)=true:=by kernel_rfl
theorem If:(List.range' 243 16).all (E9 Tryz.prog FL 3 301)=true:=by kernel_rfl
theorem Ig:(List.range' 259 16).all (E9 Tryz.prog FL 3 301)=true:=by kernel_rfl
theorem Ih:(List.range' 275 16).all (E9 Tryz.prog FL 3 301)=true:=by kernel_rfl
theorem Ii:(List.range' 291 10).all (E9 Tryz.prog FL 3 301)=true:=by kernel_rfl
theorem H4 (g:Nat) (h:3<=g/\g < 301):E9 Tryz.prog FL 3 301 g=true:=by
 rcases (by omega:(3<=g/\g < 19)\/(19<=g/\g < 35)\/(35<=g/\g < 51)\/(51<=g/\g < 67)\/(67<=g/\g < 83)\/(83<=g/\g < 99)\/(99<=g/\g < 115)\/(115<=g/\g < 131)\/(131<=g/\g < 147)\/(147<=g/\g < 163)\/(163<=g/\g < 179)\/(179<=g/\g < 195)\/(195<=g/\g < 211)\/(211<=g/\g < 227)\/(227<=g/\g < 243)\/(243<=g/\g < 259)\/(259<=g/\g < 275)\/(275<=g/\g < 291)\/(291<=g/\g < 301)) with h|h|h|h|h|h|h|h|h|h|h|h|h|h|h|h|h|h|h
 ·exact List.all_eq_true.1 Iw g (List.mem_range'_1.2 h)
 ·exact List.all_eq_true.1 Ix g (List.mem_range'_1.2 h)
 ·exact List.all_eq_true.1 Iy g (List.mem_range'_1.2 h)
 ·exact List.all_eq_true.1 Iz g (List.mem_range'_1.2 h)
 ·exact List.all_eq_true.1 IA g (List.mem_range'_1.2 h)
 ·exact List.all_eq_true.1 IB g (List.mem_range'_1.2 h)
 ·exact List.all_eq_true.1 IC g (List.mem_range'_1.2 h)
 ·exact List.all_eq_true.1 ID g (List.mem_range'_1.2 h)
 ·exact List.all_eq_true.1 IE g (List.mem_range'_1.2 h)
 ·exact List.all_eq_true.1 IF g (List.mem_range'_1.2 h)
 ·exact List.all_eq_true.1 Ia g (List.mem_range'_1.2 h)
 ·exact List.all_eq_true.1 Ib g (List.mem_range'_1.2 h)
 ·exact List.all_eq_true.1 Ic g (List.mem_range'_1.2 h)
 ·exact List.all_eq_true.1 Id g (List.mem_range'_1.2 h)
 ·exact List.all_eq_true.1 Ie g (List.mem_range'_1.2 h)
 ·exact List.all_eq_true.1 If g (List.mem_range'_1.2 h)
 ·exact List.all_eq_true.1 Ig g (List.mem_range'_1.2 h)
 ·exact List.all_eq_true.1 Ih g (List.mem_range'_1.2 h)
 exact List.all_eq_true.1 Ii g (List.mem_range'_1.2 h)
theorem Hs (f:Nat) (h:((Nat.ble 3 f && Nat.blt f 301) && Nat.blt (un FL f) 1000)=true):Tryz.prog.inPlace f=[]/\Tryz.prog.unfollowed f=false/\Tryz.prog.recurses f=false/\Tryz.prog.varsNamed f=[]:=
 GE H4 f (by simpa only [Bool.and_eq_true,Nat.ble_eq,Nat.blt_eq] using h)
end
end Go.Proofs.YtjghbknhneffjaaGreat
