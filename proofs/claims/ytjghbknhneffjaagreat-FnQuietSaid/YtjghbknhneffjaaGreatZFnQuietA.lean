/-
  Texts merged for this claim by shake.py: what its proof needs.
-/
import Derived.Test.YtjghbknhneffjaaGreatZFnB2K
import Derived.Test.YtjghbknhneffjaaGreatZFnB2L
set_option maxHeartbeats 16000000
set_option maxRecDepth 100000
set_option linter.unusedVariables false
set_option linter.unusedSimpArgs false
namespace Go.Proofs.YtjghbknhneffjaaGreat
section
open Go.RowKit
section
variable {P:Program} {β:Be} {s:S} {a:Act} {w:World} {o:Oper} {r:OpR} {ty:TypeId}
end
end
section
open Go.RowKit
end
section
end
section
end
section
open Go.RowKit
end
section
open Go.RowKit
section
variable {P:Program} {β:Be}
end
end
section
open Go.RowKit
theorem Jt:(Er.all fun p=>t7 (EO 1 p) && t7 (EO 2 p) && zJ (pX (EO 1 p) (EO 2 p)).1 && zJ (pX (EO 1 p) (EO 2 p)).2.1)=true:=by decide+kernel
theorem Ju:(Er.all fun p=>startE (pX (EO 1 p) (EO 2 p)).1 (pX (EO 1 p) (EO 2 p)).2.1)=true:=by decide+kernel
structure Start2 (w:WorldD):Prop where
 pol:w.a.policy∈Er
 done:w.a.done=[]/\w.b.done=[]
 over:w.a.over=[]/\w.b.over=[]
theorem Ji:(Er.all fun p=>decide ((pX (EO 1 p) (EO 2 p)).1.policy=p) && decide ((pX (EO 1 p) (EO 2 p)).1.done=[]/\(pX (EO 1 p) (EO 2 p)).2.1.done=[]) && decide ((pX (EO 1 p) (EO 2 p)).1.over=[]/\(pX (EO 1 p) (EO 2 p)).2.1.over=[]))=true:=by decide+kernel
structure CalmA (a:ActD):Prop where
 k:a.kind=1\/a.kind=2\/a.kind=3\/a.kind=4\/a.kind=5\/a.kind=8\/a.kind=9\/a.kind=10
 ad:a.kind=5->a.addr.id=1/\a.addr.addr=10*a.side+2
def KIq (a:ActD):Prop:=(a.kind=4/\a.side=1)\/a.kind=3\/a.kind=2\/a.kind=8
def KSq (a:ActD):Prop:=¬ a.kind=6/\¬ a.kind=7/\¬ a.kind=11/\¬ a.kind=12
theorem CalmA.ks {a:ActD} (h:CalmA a):KSq a:=by have:=h.k;simp only [KSq];omega
theorem Jv (w:WorldD) (a:ActD) (hw:SmallD w) (ha:cO a=true) (h7:a.kind<=7) (hq:KIq a):
  aP 164 [.sc (.pt 21 0 0),.ag a.cs] (w.hp true++[some ⟨[w.cs 0],61,44,true,false⟩]) (.sc (.int .i64 (eX w a).2))
  ((nH 21++[some ⟨[WorldD.cs (eX w a).1 22],61,44,true,false⟩])++WorldD.hp (eX w a).1 true):=by
 obtain⟨k1,k2,k3,k4,k5,k6⟩:=lk ha
 obtain⟨kind,side,pos,many,text,ad,le⟩:=a
 simp only [KIq] at hq
 dsimp only at*
 have hs:side=1\/side=2:=by omega
 have hk:(kind=4/\side=1)\/kind=3\/kind=2:=by omega
 clear ha k1 k2 k3 k4 h7 hq
 rcases hk with⟨rfl,rfl⟩|rfl|rfl
 ·rw [DT];exact o5 w pos many text ad le hw k6
 ·rcases hs with rfl|rfl
  ·rw [DS];exact o7 w pos many text ad le hw k6
  rw [DX];exact o8 w pos many text ad le hw k6
 rcases hs with rfl|rfl
 ·rw [DR];exact o4 w pos many text ad le hw k6
 rw [DW];exact o6 w pos many text ad le hw k6
theorem Je (w:WorldD) (a:ActD) (hw:SmallD w) (ha:cO a=true) (h7:a.kind<=7) (hb:¬ dl w a=true) (hq:KSq a):
  aP 169 [.ag (w.cs 0),.ag a.cs] (w.hp false) (.tu [.ag ((eX w a).1.cs 21),.sc (.int .i64 (eX w a).2)]) (w.hp false++(eX w a).1.hp true):=by
 obtain⟨k1,k2,k3,k4,k5,k6⟩:=lk ha
 obtain⟨kind,side,pos,many,text,ad,le⟩:=a
 simp only [KSq] at hq
 dsimp only at*
 have hs:side=1\/side=2:=by omega
 have hk:kind=1\/kind=2\/kind=3\/kind=4\/kind=5:=by omega
 clear ha k1 k2 k3 k4 h7 hq
 rcases hs with rfl|rfl<;>rcases hk with rfl|rfl|rfl|rfl|rfl
 ·rw [DQ];exact zy w pos many text ad le hw k6
 ·rw [DR];exact zz w pos many text ad le hw k6
 ·rw [DS];exact zG w pos many text ad le hw k6
 ·rw [DT];exact zA w pos many text ad le hw k6
 ·have hb:sideAt ad.addr=1/\(az w.a ad).2=true:=by
   by_cases h0:sideAt ad.addr=1<;>cases h1:(az w.a ad).2<;>simp [dl,bB,h0,h1] at hb<;>exact⟨h0,rfl⟩
  rw [DU hb.1 hb.2];exact zB w pos many text ad le hw k6 hb.1 hb.2
 ·rw [DV];exact zC w pos many text ad le hw k6
 ·rw [DW];exact zD w pos many text ad le hw k6
 ·rw [DX];exact zH w pos many text ad le hw k6
 ·rw [DY];exact zE w pos many text ad le hw k6
 have hb:sideAt ad.addr=2/\(az w.b ad).2=true:=by
  by_cases h0:sideAt ad.addr=2<;>cases h1:(az w.b ad).2<;>simp [dl,bB,h0,h1] at hb<;>exact⟨h0,rfl⟩
 rw [DZ hb.1 hb.2];exact zF w pos many text ad le hw k6 hb.1 hb.2
theorem Jj (w:WorldD) (a:ActD) (hw:SmallD w) (ha:cO a=true) (h7:¬ a.kind<=7) (hq:KIq a):
  aP 165 [.sc (.pt 21 0 0),.ag a.cs] (w.hp true++[some ⟨[w.cs 0],61,44,true,false⟩]) (.sc (.int .i64 (ce w a).2))
  ((nH 21++[some ⟨[WorldD.cs (ce w a).1 22],61,44,true,false⟩])++WorldD.hp (ce w a).1 true):=by
 obtain⟨k1,k2,k3,k4,k5,k6⟩:=lk ha
 obtain⟨kind,side,pos,many,text,ad,le⟩:=a
 simp only [KIq] at hq
 dsimp only at*
 obtain rfl:kind=8:=by omega
 obtain⟨p,rfl⟩:=Int.eq_ofNat_of_zero_le k5
 exact o9 w side many p text ad le hw
attribute [go_sem] List.append_eq
theorem ub (l:List AddrD) (hl:l.length<=4611686018427387904):aP 20 [.sc (.sl 0 0 l.length),.sc (.sl 1 0 l.length)] [some ⟨l.map AddrD.cs,4,103,false,true⟩,some ⟨l.map AddrD.cs,4,103,false,true⟩] (.sc (.bo true)) [some ⟨l.map AddrD.cs,4,103,false,true⟩,some ⟨l.map AddrD.cs,4,103,false,true⟩]:=by
 refine qE Tryz.func20 Tryz.ntmps20 Tryz.results20 fun E hE=>?_
 refine jx 2 hE (fun s (k:Nat)=>s.at (qU [4,1,6,20]) [(5,.sc (.int .i64 (k:Nat)))] (s.hp)) (fun (k:Nat)=>k<=l.length) (fun (k:Nat)=>l.length - k) 0 (qI 0 2) (Nat.zero_le _) fun k hk N hN=>?_
 refine qR ?_
 refine qB (fun h=>?_) fun h=>?_
 ·refine qD [0,1,2,3,4,5,6,7,8] ?_
  refine qG ?_
  exact qN hN (k+1) (qI 0 2) (by (try dsimp only);exact h)
 exact qF (qI 0 2)
theorem FJ (l:List SubD) (hl:l.length<=4611686018427387904):aP 138 [.sc (.sl 0 0 l.length),.sc (.sl 1 0 l.length)] [some ⟨l.map SubD.cs,10,101,false,true⟩,some ⟨l.map SubD.cs,10,101,false,true⟩] (.sc (.bo true)) [some ⟨l.map SubD.cs,10,101,false,true⟩,some ⟨l.map SubD.cs,10,101,false,true⟩]:=by
 refine qE Tryz.func138 Tryz.ntmps138 Tryz.results138 fun E hE=>?_
 refine jx 2 hE (fun s (k:Nat)=>s.at (qU [4,1,6,20]) [(5,.sc (.int .i64 (k:Nat)))] (s.hp)) (fun (k:Nat)=>k<=l.length) (fun (k:Nat)=>l.length - k) 0 (qI 0 2) (Nat.zero_le _) fun k hk N hN=>?_
 refine qR ?_
 refine qB (fun h=>?_) fun h=>?_
 ·refine qD [0,1,2,3,4,5,6,7,8] ?_
  refine qG ?_
  exact qN hN (k+1) (qI 0 2) (by (try dsimp only);exact h)
 exact qF (qI 0 2)
theorem FA (l:List HalfD) (hl:l.length<=4611686018427387904):aP 139 [.sc (.sl 0 0 l.length),.sc (.sl 1 0 l.length)] [some ⟨l.map HalfD.cs,8,121,false,true⟩,some ⟨l.map HalfD.cs,8,121,false,true⟩] (.sc (.bo true)) [some ⟨l.map HalfD.cs,8,121,false,true⟩,some ⟨l.map HalfD.cs,8,121,false,true⟩]:=by
 refine qE Tryz.func139 Tryz.ntmps139 Tryz.results139 fun E hE=>?_
 refine jx 2 hE (fun s (k:Nat)=>s.at (qU [4,1,6,20]) [(5,.sc (.int .i64 (k:Nat)))] (s.hp)) (fun (k:Nat)=>k<=l.length) (fun (k:Nat)=>l.length - k) 0 (qI 0 2) (Nat.zero_le _) fun k hk N hN=>?_
 refine qR ?_
 refine qB (fun h=>?_) fun h=>?_
 ·refine qD [0,1,2,3,4,5,6,7,8] ?_
  refine qG ?_
  exact qN hN (k+1) (qI 0 2) (by (try dsimp only);exact h)
 exact qF (qI 0 2)
theorem v5 (l:List PieceD) (hl:l.length<=4611686018427387904):aP 77 [.sc (.sl 0 0 l.length),.sc (.sl 1 0 l.length)] [some ⟨l.map PieceD.cs,2,150,false,true⟩,some ⟨l.map PieceD.cs,2,150,false,true⟩] (.sc (.bo true)) [some ⟨l.map PieceD.cs,2,150,false,true⟩,some ⟨l.map PieceD.cs,2,150,false,true⟩]:=by
 refine qE Tryz.func77 Tryz.ntmps77 Tryz.results77 fun E hE=>?_
 refine jx 2 hE (fun s (k:Nat)=>s.at (qU [4,1,6,20]) [(5,.sc (.int .i64 (k:Nat)))] (s.hp)) (fun (k:Nat)=>k<=l.length) (fun (k:Nat)=>l.length - k) 0 (qI 0 2) (Nat.zero_le _) fun k hk N hN=>?_
 refine qR ?_
 refine qB (fun h=>?_) fun h=>?_
 ·refine qD [0,1,2,3,4,5,6,7,8] ?_
  refine qG ?_
  exact qN hN (k+1) (qI 0 2) (by (try dsimp only);exact h)
 exact qF (qI 0 2)
theorem sz (l:List LetterD) (hl:l.length<=4611686018427387904):aP 70 [.sc (.sl 0 0 l.length),.sc (.sl 1 0 l.length)] [some ⟨l.map LetterD.cs,19,48,false,true⟩,some ⟨l.map LetterD.cs,19,48,false,true⟩] (.sc (.bo true)) [some ⟨l.map LetterD.cs,19,48,false,true⟩,some ⟨l.map LetterD.cs,19,48,false,true⟩]:=by
 refine qE Tryz.func70 Tryz.ntmps70 Tryz.results70 fun E hE=>?_
 refine jx 2 hE (fun s (k:Nat)=>s.at (qU [4,1,6,20]) [(5,.sc (.int .i64 (k:Nat)))] (s.hp)) (fun (k:Nat)=>k<=l.length) (fun (k:Nat)=>l.length - k) 0 (qI 0 2) (Nat.zero_le _) fun k hk N hN=>?_
 refine qR ?_
 refine qB (fun h=>?_) fun h=>?_
 ·refine qD [0,1,2,3,4,5,6,7,8] ?_
  refine qG ?_
  exact qN hN (k+1) (qI 0 2) (by (try dsimp only);exact h)
 exact qF (qI 0 2)
theorem FK (l:List TagD) (hl:l.length<=4611686018427387904):aP 140 [.sc (.sl 0 0 l.length),.sc (.sl 1 0 l.length)] [some ⟨l.map TagD.cs,5,46,false,true⟩,some ⟨l.map TagD.cs,5,46,false,true⟩] (.sc (.bo true)) [some ⟨l.map TagD.cs,5,46,false,true⟩,some ⟨l.map TagD.cs,5,46,false,true⟩]:=by
 refine qE Tryz.func140 Tryz.ntmps140 Tryz.results140 fun E hE=>?_
 refine jx 2 hE (fun s (k:Nat)=>s.at (qU [4,1,6,20]) [(5,.sc (.int .i64 (k:Nat)))] (s.hp)) (fun (k:Nat)=>k<=l.length) (fun (k:Nat)=>l.length - k) 0 (qI 0 2) (Nat.zero_le _) fun k hk N hN=>?_
 refine qR ?_
 refine qB (fun h=>?_) fun h=>?_
 ·refine qD [0,1,2,3,4,5,6,7,8] ?_
  refine qG ?_
  exact qN hN (k+1) (qI 0 2) (by (try dsimp only);exact h)
 exact qF (qI 0 2)
theorem ft (l:List Int) (hl:l.length<=4611686018427387904):aP 17 [.sc (.sl 0 0 l.length),.sc (.sl 1 0 l.length)] [some ⟨l.map aM,1,3,false,true⟩,some ⟨l.map aM,1,3,false,true⟩] (.sc (.bo true)) [some ⟨l.map aM,1,3,false,true⟩,some ⟨l.map aM,1,3,false,true⟩]:=by
 refine qE Tryz.func17 Tryz.ntmps17 Tryz.results17 fun E hE=>?_
 refine jx 2 hE (fun s (k:Nat)=>s.at (qU [4,1,6,20]) [(5,.sc (.int .i64 (k:Nat)))] (s.hp)) (fun (k:Nat)=>k<=l.length) (fun (k:Nat)=>l.length - k) 0 (qI 0 2) (Nat.zero_le _) fun k hk N hN=>?_
 refine qR ?_
 refine qB (fun h=>?_) fun h=>?_
 ·refine qD [0,1,2,3,4,5,6,7,8] ?_
  refine qG ?_
  exact qN hN (k+1) (qI 0 2) (by (try dsimp only);exact h)
 exact qF (qI 0 2)
theorem E7 (x:PiecesD) (hl:x.list.length<=4611686018427387904):aP 21 [.ag (x.cs 0),.ag (x.cs 1)] (x.hp false++x.hp false) (.sc (.bo true)) (x.hp false++x.hp false):=by
 refine qE Tryz.func21 Tryz.ntmps21 Tryz.results21 fun E hE=>?_
 refine qK (v5 x.list hl) (qI 0 2) ?_
 exact qF (qI 0 2)
theorem Gc (e:EndD) (h0:e.own.length<=1048576) (h1:e.far.length<=1048576) (h2:e.subs.length<=1048576) (h3:e.halfs.length<=1048576) (h4:e.inp.list.length<=1048576) (h5:e.done.length<=1048576) (h6:e.over.length<=1048576):aP 69 [.ag (e.cs 0),.ag (e.cs 7)] (e.hp false++e.hp false) (.sc (.bo true)) (e.hp false++e.hp false):=by
 refine qE Tryz.func69 Tryz.ntmps69 Tryz.results69 fun E hE=>?_
 refine qK (ub e.own (by omega)) (qI 0 1++qI 7 1) ?_
 refine qK (ub e.far (by omega)) (qI 1 1++qI 8 1) ?_
 refine qK (FJ e.subs (by omega)) (qI 2 1++qI 9 1) ?_
 refine qK (FA e.halfs (by omega)) (qI 3 1++qI 10 1) ?_
 refine qK (E7 e.inp (by omega)) (qI 4 1++qI 11 1) ?_
 refine qK (ft e.done (by omega)) (qI 5 1++qI 12 1) ?_
 refine qK (ft e.over (by omega)) (qI 6 1++qI 13 1) ?_
 exact qF (qI 0 14)
theorem FB (x:KnownD) (h0:x.keys.length<=1048576) (h1:x.tags.length<=1048576):aP 71 [.ag (x.cs 0),.ag (x.cs 2)] (x.hp false++x.hp false) (.sc (.bo true)) (x.hp false++x.hp false):=by
 refine qE Tryz.func71 Tryz.ntmps71 Tryz.results71 fun E hE=>?_
 refine qK (ft x.keys (by omega)) (qI 0 1++qI 2 1) ?_
 refine qK (FK x.tags (by omega)) (qI 1 1++qI 3 1) ?_
 exact qF (qI 0 4)
theorem H9 (e:EndD) (h:Small e):aP 69 [.ag (e.cs 0),.ag (e.cs 7)] (e.hp false++e.hp false) (.sc (.bo true)) (e.hp false++e.hp false):=Gc e h.own h.far h.subs h.halfs h.list h.done h.over
theorem FC (w:WorldD) (h:SmallW w):aP 15 [.ag (w.cs 0),.ag (w.cs 21)] (w.hp false++w.hp false) (.sc (.bo true)) (w.hp false++w.hp false):=by
 have h1:=h.bag
 have h2:=h.past
 have h3:=h.keys
 have h4:=h.tags
 have h5:=h.nums
 have h6:=h.ansA
 have h7:=h.ansB
 refine qE Tryz.func15 Tryz.ntmps15 Tryz.results15 fun E hE=>?_
 refine qK (H9 w.a h.a) (qI 0 7++qI 21 7) ?_
 refine qK (H9 w.b h.b) (qI 7 7++qI 28 7) ?_
 refine qK (sz w.bag (by omega)) (qI 14 1++qI 35 1) ?_
 refine qK (sz w.past (by omega)) (qI 15 1++qI 36 1) ?_
 refine qK (FB w.known (by omega) (by omega)) (qI 16 2++qI 37 2) ?_
 refine qK (ft w.nums (by omega)) (qI 18 1++qI 39 1) ?_
 refine qK (ft w.answersA (by omega)) (qI 19 1++qI 40 1) ?_
 refine qK (ft w.answersB (by omega)) (qI 20 1++qI 41 1) ?_
 exact qF (qI 0 42)
end
section
open Go
def IN (P:Program) (g:Nat):List Nat:=(P.funcs[g]?).elim [] P.leadsTo
def IP (P:Program) (seen:List Nat):Nat->Nat
 |0=>0
 |n+1=>IP P seen n+(if seen.contains n then 0 else (IN P n).length+1)
theorem I6 {P:Program} {seen:List Nat} {f:Nat}:∀ {n:Nat},n<=f->IP P (f::seen) n=IP P seen n
 |0,_=>rfl
 |n+1,h=>by
  rw [IP,IP,I6 (n:=n) (by omega)]
  have:(f::seen).contains n=seen.contains n:=by
   rw [List.contains_cons]
   have:(n == f)=false:=by simp;omega
   rw [this,Bool.false_or]
  rw [this]
theorem Jq {P:Program} {seen:List Nat} {f:Nat} (hs:seen.contains f=false):∀ {n:Nat},f < n->IP P (f::seen) n+((IN P f).length+1)=IP P seen n
 |0,h=>absurd h (Nat.not_lt_zero _)
 |n+1,h=>by
  rw [IP,IP]
  by_cases hf:f=n
  ·subst hf
   rw [I6 (Nat.le_refl _),hs,List.contains_cons]
   simp
  have:=Jq (P:=P) hs (n:=n) (by omega)
  have e:(f::seen).contains n=seen.contains n:=by
   rw [List.contains_cons]
   have:(n == f)=false:=by simp;omega
   rw [this,Bool.false_or]
  rw [e]
  omega
theorem rA {P:Program}:∀ (n:Nat) (todo seen:List FuncId),todo.length+IP P seen P.funcs.size<=n->(∀ s∈seen,∀ h∈IN P s,h∈seen\/h∈todo)->
  (∀ x,x∈todo\/x∈seen->x∈P.closureVia n todo seen)/\∀ x∈P.closureVia n todo seen,∀ h∈IN P x,h∈P.closureVia n todo seen
 |0,todo,seen,hn,hi=>by
  have:todo=[]:=List.length_eq_zero_iff.1 (by omega)
  subst this
  unfold Program.closureVia
  refine⟨fun x hx=>List.mem_reverse.2 (hx.elim (fun h=>by cases h) id),fun x hx h hh=>?_⟩
  exact List.mem_reverse.2 ((hi x (List.mem_reverse.1 hx) h hh).elim id fun h=>by cases h)
 |n+1,[],seen,hn,hi=>by
  unfold Program.closureVia
  refine⟨fun x hx=>List.mem_reverse.2 (hx.elim (fun h=>by cases h) id),fun x hx h hh=>?_⟩
  exact List.mem_reverse.2 ((hi x (List.mem_reverse.1 hx) h hh).elim id fun h=>by cases h)
 |n+1,f::todo,seen,hn,hi=>by
  unfold Program.closureVia
  simp only [List.length_cons] at hn
  by_cases hf:seen.contains f=true
  ·rw [if_pos hf]
   have hfm:f∈seen:=List.contains_iff_mem.1 hf
   have ih:=rA n todo seen (by omega) fun s hs h hh=>(hi s hs h hh).elim .inl fun hm=>by
    rcases List.mem_cons.1 hm with rfl|hm
    ·exact .inl hfm
    exact .inr hm
   refine⟨fun x hx=>ih.1 x ?_,ih.2⟩
   rcases hx with hx|hx
   ·rcases List.mem_cons.1 hx with rfl|hx
    ·exact .inr hfm
    exact .inl hx
   exact .inr hx
  rw [if_neg hf]
  have hff:seen.contains f=false:=by simpa using hf
  have hlen:((P.funcs[f]?).elim [] P.leadsTo++todo).length+IP P (f::seen) P.funcs.size<=n:=by
   rw [List.length_append]
   by_cases hsz:f < P.funcs.size
   ·have:=Jq (P:=P) hff hsz
    show (IN P f).length+todo.length+_<=n
    omega
   rw [I6 (Nat.le_of_not_lt hsz)]
   have:P.funcs[f]? =none:=Array.getElem?_eq_none (Nat.le_of_not_lt hsz)
   rw [this]
   simp only [Option.elim,List.length_nil]
   omega
  have ih:=rA n _ (f::seen) hlen fun s hs h hh=>by
   rcases List.mem_cons.1 hs with rfl|hs
   ·exact .inr (List.mem_append_left _ hh)
   rcases hi s hs h hh with hm|hm
   ·exact .inl (List.mem_cons_of_mem _ hm)
   rcases List.mem_cons.1 hm with rfl|hm
   ·exact .inl (List.mem_cons_self ..)
   exact .inr (List.mem_append_right _ hm)
  refine⟨fun x hx=>ih.1 x ?_,ih.2⟩
  rcases hx with hx|hx
  ·rcases List.mem_cons.1 hx with rfl|hx
   ·exact .inr (List.mem_cons_self ..)
   exact .inl (List.mem_append_right _ hx)
  exact .inr (List.mem_cons_of_mem _ hx)
theorem Jr (P:Program):∀ n,n<=P.funcs.size->IP P [] n=((P.funcs.toList.take n).map fun g=>(P.leadsTo g).length+1).sum
 |0,_=>by simp [IP]
 |n+1,h=>by
  have hn:n < P.funcs.toList.length:=by
   show n < P.funcs.size
   exact h
  rw [IP,Jr P n (by omega),List.take_succ_eq_append_getElem hn,List.map_append,List.sum_append]
  have e:IN P n=P.leadsTo P.funcs.toList[n]:=by
   rw [IN,Array.getElem?_eq_getElem (by simpa using hn)]
   simp
  rw [e]
  simp
theorem I7 {P:Program} {f:FuncId}:f∈P.closure f/\∀ x∈P.closure f,∀ h∈IN P x,h∈P.closure f:=by
 have hp:=Jr P P.funcs.size (Nat.le_refl _)
 rw [List.take_of_length_le (by simp)] at hp
 have:=rA (P:=P) (1+(P.funcs.toList.map fun g=>(P.leadsTo g).length+1).sum) [f] [] (by simp only [List.length_singleton];omega) (fun s hs=>by cases hs)
 exact⟨this.1 f (.inl (List.mem_singleton.2 rfl)),this.2⟩
def IZ (P:Program) (lo hi:Nat) (g:Nat):Bool:=
 match P.funcs[g]? with
 |none=>true
 |some fn=>((P.leadsTo fn).all fun h=>Nat.ble lo h && Nat.blt h hi) && (!(fn.ours || fn.body.isNone || fn.name == "runtime.NumGoroutine") && (match fn.body with|some c=>c.globalsNamed.isEmpty|none=>false))
theorem Js {P:Program} {lo hi:Nat} (h:∀ g,lo<=g/\g < hi->IZ P lo hi g=true) (f u:FuncId) (hf:lo<=f/\f < hi) (hu:u∈P.closure f) (hv:((P.funcs[u]?).any fun fn=>match fn.body with|some c=>c.unfollowed|none=>entryCalls fn)=true):
  P.inPlace f=[]/\P.unfollowed f=true/\P.recurses f=true/\P.varsNamed f=[]:=by
 have hin:∀ x∈P.closure f,lo<=x/\x < hi:=Bo (S:=fun x=>lo<=x/\x < hi) (fun a ha b hb=>by
  have hg:=h a ha
  unfold IZ at hg
  cases hq:P.funcs[a]? with
  |none=>rw [hq] at hb;simp at hb
  |some fn=>
   rw [hq] at hg hb
   simp only [Bool.and_eq_true,List.all_eq_true,Nat.blt_eq,Nat.ble_eq] at hg
   exact hg.1 b hb) hf
 have hun:P.unfollowed f=true:=by
  unfold Program.unfollowed
  rw [List.any_eq_true]
  exact⟨u,hu,hv⟩
 refine⟨?_,hun,by unfold Program.recurses;rw [hun];rfl,?_⟩
 ·unfold Program.inPlace
  rw [List.filterMap_eq_nil_iff]
  intro g hgc
  have hg:=h g (hin g hgc)
  unfold IZ at hg
  cases hq:P.funcs[g]? with
  |none=>rfl
  |some fn=>
   rw [hq] at hg
   simp only [Bool.and_eq_true,Bool.not_eq_true'] at hg
   simp only [Option.bind_some]
   rw [hg.2.1]
   rfl
 unfold Program.varsNamed
 have e1:((P.closure f).flatMap fun g=>((P.funcs[g]?).bind (·.body)).elim [] Code.globalsNamed)=[]:=by
  rw [List.flatMap_eq_nil_iff]
  intro g hgc
  have hg:=h g (hin g hgc)
  unfold IZ at hg
  cases hq:P.funcs[g]? with
  |none=>rfl
  |some fn=>
   rw [hq] at hg
   simp only [Bool.and_eq_true] at hg
   simp only [Option.bind_some]
   cases hb:fn.body with
   |none=>rfl
   |some c=>rw [hb] at hg;simp at hg⊢;exact hg.2.2
 have e2:((P.closure f).filterMap fun g=>(P.funcs[g]?).bind fun fn=>if fn.body.isNone then entryReads.lookup fn.name else none)=[]:=by
  rw [List.filterMap_eq_nil_iff]
  intro g hgc
  have hg:=h g (hin g hgc)
  unfold IZ at hg
  cases hq:P.funcs[g]? with
  |none=>rfl
  |some fn=>
   rw [hq] at hg
   simp only [Bool.and_eq_true] at hg
   simp only [Option.bind_some]
   cases hb:fn.body with
   |none=>rw [hb] at hg;simp at hg
   |some c=>rfl
 rw [e1,e2]
 rfl
theorem JC {P:Program} {f:FuncId} {fn:Func} {s:ChangeSpec} {c:OpenClaim} (g:P.inPlace f=[]/\P.unfollowed f=true/\P.recurses f=true/\P.varsNamed f=[]) (c1:c.inPlace=[]) (c2:c.unfollowed=true) (c3:c.recurses=true) (c4:c.named=[])
  (m1:P.mayEnter=true) (m2:P.liftsFinal=false) (m3:P.make=some .cut) (d2:c.lifted=false) (d3:c.make=.cut) (h:Cj P f fn s c=true):joinedFacts P f fn s c=true:=by
 obtain⟨g1,g2,g3,g4⟩:=g
 unfold Cj at h
 unfold joinedFacts
 simp only [Bool.and_eq_true] at h⊢
 obtain⟨⟨⟨⟨⟨⟨⟨⟨⟨⟨⟨⟨⟨⟨⟨⟨⟨⟨⟨⟨⟨⟨⟨⟨k1,k2⟩,k3⟩,k4⟩,k5⟩,k6⟩,k7⟩,k8⟩,k9⟩,k14⟩,k15⟩,k16⟩,k17⟩,k17b⟩,k18⟩,k19⟩,k20⟩,k21⟩,k22⟩,k23⟩,k23b⟩,k25⟩,k26⟩,k27⟩,k28⟩:=h
 refine⟨⟨⟨⟨⟨⟨⟨⟨⟨⟨⟨⟨⟨⟨⟨⟨⟨⟨⟨⟨⟨⟨⟨⟨⟨⟨⟨⟨⟨⟨⟨k1,k2⟩,k3⟩,k4⟩,k5⟩,k6⟩,k7⟩,k8⟩,k9⟩,?_⟩,?_⟩,?_⟩,?_⟩,k14⟩,k15⟩,k16⟩,k17⟩,k17b⟩,k18⟩,k19⟩,k20⟩,k21⟩,k22⟩,k23⟩,k23b⟩,m1⟩,?_⟩,?_⟩,k25⟩,k26⟩,k27⟩,k28⟩
 ·rw [c1,g1];rfl
 ·rw [c2,g2];rfl
 ·rw [c3,g3];rfl
 ·rw [c4,g4];rfl
 ·rw [d2,m2];rfl
 rw [d3,m3];exact beq_self_eq_true _
end
section
open Go
theorem J0:(List.range' 3 16).all (IZ Tryz.prog 3 301)=true:=by kernel_rfl
theorem J1:(List.range' 19 16).all (IZ Tryz.prog 3 301)=true:=by kernel_rfl
theorem J2:(List.range' 35 16).all (IZ Tryz.prog 3 301)=true:=by kernel_rfl
theorem J3:(List.range' 51 16).all (IZ Tryz.prog 3 301)=true:=by kernel_rfl
theorem J4:(List.range' 67 16).all (IZ Tryz.prog 3 301)=true:=by kernel_rfl
theorem J5:(List.range' 83 16).all (IZ Tryz.prog 3 301)=true:=by kernel_rfl
theorem J6:(List.range' 99 16).all (IZ Tryz.prog 3 301)=true:=by kernel_rfl
theorem J7:(List.range' 115 16).all (IZ Tryz.prog 3 301)=true:=by kernel_rfl
theorem J8:(List.range' 131 16).all (IZ Tryz.prog 3 301)=true:=by kernel_rfl
theorem J9:(List.range' 147 16).all (IZ Tryz.prog 3 301)=true:=by kernel_rfl
theorem JQ:(List.range' 163 16).all (IZ Tryz.prog 3 301)=true:=by kernel_rfl
theorem JR:(List.range' 179 16).all (IZ Tryz.prog 3 301)=true:=by kernel_rfl
theorem JS:(List.range' 195 16).all (IZ Tryz.prog 3 301)=true:=by kernel_rfl
theorem JT:(List.range' 211 16).all (IZ Tryz.prog 3 301)=true:=by kernel_rfl
theorem JU:(List.range' 227 16).all (IZ Tryz.prog 3 301)=true:=by kernel_rfl
theorem JV:(List.range' 243 16).all (IZ Tryz.prog 3 301)=true:=by kernel_rfl
theorem JW:(List.range' 259 16).all (IZ Tryz.prog 3 301)=true:=by kernel_rfl
theorem JX:(List.range' 275 16).all (IZ Tryz.prog 3 301)=true:=by kernel_rfl
theorem JY:(List.range' 291 10).all (IZ Tryz.prog 3 301)=true:=by kernel_rfl
theorem JN (g:Nat) (h:3<=g/\g < 301):IZ Tryz.prog 3 301 g=true:=by
 rcases (by omega:(3<=g/\g < 19)\/(19<=g/\g < 35)\/(35<=g/\g < 51)\/(51<=g/\g < 67)\/(67<=g/\g < 83)\/(83<=g/\g < 99)\/(99<=g/\g < 115)\/(115<=g/\g < 131)\/(131<=g/\g < 147)\/(147<=g/\g < 163)\/(163<=g/\g < 179)\/(179<=g/\g < 195)\/(195<=g/\g < 211)\/(211<=g/\g < 227)\/(227<=g/\g < 243)\/(243<=g/\g < 259)\/(259<=g/\g < 275)\/(275<=g/\g < 291)\/(291<=g/\g < 301)) with h|h|h|h|h|h|h|h|h|h|h|h|h|h|h|h|h|h|h
 ·exact List.all_eq_true.1 J0 g (List.mem_range'_1.2 h)
 ·exact List.all_eq_true.1 J1 g (List.mem_range'_1.2 h)
 ·exact List.all_eq_true.1 J2 g (List.mem_range'_1.2 h)
 ·exact List.all_eq_true.1 J3 g (List.mem_range'_1.2 h)
 ·exact List.all_eq_true.1 J4 g (List.mem_range'_1.2 h)
 ·exact List.all_eq_true.1 J5 g (List.mem_range'_1.2 h)
 ·exact List.all_eq_true.1 J6 g (List.mem_range'_1.2 h)
 ·exact List.all_eq_true.1 J7 g (List.mem_range'_1.2 h)
 ·exact List.all_eq_true.1 J8 g (List.mem_range'_1.2 h)
 ·exact List.all_eq_true.1 J9 g (List.mem_range'_1.2 h)
 ·exact List.all_eq_true.1 JQ g (List.mem_range'_1.2 h)
 ·exact List.all_eq_true.1 JR g (List.mem_range'_1.2 h)
 ·exact List.all_eq_true.1 JS g (List.mem_range'_1.2 h)
 ·exact List.all_eq_true.1 JT g (List.mem_range'_1.2 h)
 ·exact List.all_eq_true.1 JU g (List.mem_range'_1.2 h)
 ·exact List.all_eq_true.1 JV g (List.mem_range'_1.2 h)
 ·exact List.all_eq_true.1 JW g (List.mem_range'_1.2 h)
 ·exact List.all_eq_true.1 JX g (List.mem_range'_1.2 h)
 exact List.all_eq_true.1 JY g (List.mem_range'_1.2 h)
theorem JD (f u:Nat) (h:(Nat.ble 3 f && Nat.blt f 301)=true) (hu:u∈Tryz.prog.closure f) (hv:((Tryz.prog.funcs[u]?).any fun fn=>match fn.body with|some c=>c.unfollowed|none=>entryCalls fn)=true):Tryz.prog.inPlace f=[]/\Tryz.prog.unfollowed f=true/\Tryz.prog.recurses f=true/\Tryz.prog.varsNamed f=[]:=
 Js JN f u (by simpa only [Bool.and_eq_true,Nat.ble_eq,Nat.blt_eq] using h) hu hv
theorem JG {f x h:Nat} (hx:x∈Tryz.prog.closure f) (hl:(IN Tryz.prog x).contains h=true):h∈Tryz.prog.closure f:=
 I7.2 x hx h (List.contains_iff_mem.1 hl)
end
end Go.Proofs.YtjghbknhneffjaaGreat
