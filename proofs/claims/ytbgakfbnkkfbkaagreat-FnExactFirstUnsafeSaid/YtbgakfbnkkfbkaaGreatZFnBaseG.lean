/-
  Texts merged for this claim by shake.py: what its proof needs.
-/
import Derived.Tactics
import Derived.Below
import Derived.Laws.AppendOwn
import Derived.Laws.OwnMore
import Derived.Laws.Slices
import Derived.Laws.Small
import Derived.Laws.Strings
import Derived.KernelRfl
import Derived.Laws.MakeOwn
import Derived.Laws.BytesString
import Derived.Laws.BytesArg
import Derived.Laws.Build
import Derived.Laws.Concat
import Derived.Laws.StructEq
import Derived.Lib.ConvBytes
import Derived.Orders
import Derived.WalkKit
import Derived.ProofKit
import Derived.ShutString
import Derived.OpenShut
import Derived.ChangeOld
import Derived.Carry
import Derived.Test.YtbgakfbnkkfbkaaGreatChecked
import Derived.Laws.BitsLemmas
import Derived.JoinedOf
import Derived.Test.YtbgakfbnkkfbkaaGreatZFnBaseA
import Derived.Test.YtbgakfbnkkfbkaaGreatZFnBaseB
import Derived.Test.YtbgakfbnkkfbkaaGreatZFnBaseC
import Derived.Test.YtbgakfbnkkfbkaaGreatZFnBaseD
set_option maxHeartbeats 16000000
set_option maxRecDepth 100000
set_option linter.unusedVariables false
set_option linter.unusedSimpArgs false
namespace Go.Proofs.YtbgakfbnkkfbkaaGreat
section
open Go.RowKit
def QU:Nat→Nat→Rho→Bool
 |0,n0,ρ=>ρ.all fun|some (n,_)=>decide (n0≤n)|none=>true
 |k+1,n0,some (n,none)::ρ=>n == n0 && QU k (n0+1) ρ
 |_,_,_=>false
theorem BX:∀ {k n0:Nat} {ρ:Rho},QU k n0 ρ=true→(∀ i,i < k→ρ[i]? =some (some (n0+i,none)))∧(∀ i n d,k≤i→ρ[i]? =some (some (n,d))→n0+k≤n)
 |0,n0,ρ,h=>by
  refine⟨fun i hi=>by omega,fun i n d _ hr=>?_⟩
  have:=List.all_eq_true.1 (by simpa [QU] using h) _ (List.mem_of_getElem? hr)
  simpa using this
 |k+1,n0,ρ,h=>by
  cases ρ with
  |nil=>cases h
  |cons x ρ=>
   cases x with
   |none=>cases h
   |some x=>
    obtain⟨n,d⟩:=x
    cases d with
    |some d=>cases h
    |none=>
     simp only [QU,Bool.and_eq_true,beq_iff_eq] at h
     obtain⟨rfl,h⟩:=h
     obtain⟨h1,h2⟩:=BX h
     refine⟨fun i hi=>?_,fun i m d hi hr=>?_⟩
     ·cases i with
      |zero=>simp
      |succ i=>
       rw [List.getElem?_cons_succ,h1 i (by omega)]
       simp only [Option.some.injEq,Prod.mk.injEq,and_true]
       omega
     cases i with
     |zero=>omega
     |succ i=>
      rw [List.getElem?_cons_succ] at hr
      have h4:=h2 i m d (by omega) hr
      omega
theorem AI {E:Entry} {n0:Nat} (hE:E.h.length=n0) {ρ:Rho} {t s:S} (hid:QU n0 0 ρ=true) (hsep:eu ρ t.hp=true) (hsl:BK ρ t.sl s.sl) (hhp:lg ρ s.hp ρ t.hp) {β:Be} {a:Act} {w:World} (hs:Sim E β s a w):Sim E (et β ρ) t a w:=by
 obtain⟨hlo,hhi⟩:=BX hid
 have hlen:=gi hhp
 have hl0:n0≤t.hp.length:=by
  rw [←hlen]
  rcases Nat.lt_or_ge ρ.length n0 with h1|h1
  ·have:=hlo ρ.length h1
   rw [List.getElem?_eq_none (Nat.le_refl _)] at this
   cases this
  exact h1
 refine⟨hs.dfr,u3 hsl hs.sl,uZ hs.hp hhp hsep,hs.ent,?_⟩
 have st:=hs.st
 refine⟨fun o p hp=>?_,st.os,st.tape,st.output,st.size,st.block,by rw [hE];exact hl0,fun o ob hlt ho=>?_,fun o ob p hge ho hp=>?_⟩
 ·have hlt:o < n0:=by rw [←hE,←hs.ent];exact (List.getElem?_eq_some_iff.1 hp).1
  have h1:=hlo o hlt
  rw [Nat.zero_add] at h1
  rw [bB β h1]
  dsimp only
  rw [List.getD_eq_getElem?_getD,st.le o p hp]
  rfl
 ·rw [hE] at hlt
  have h1:=hlo o hlt
  rw [Nat.zero_add] at h1
  rcases eR hhp ho with⟨hr,_⟩|⟨n,d,ob',hr,hn,hob⟩
  ·rw [h1] at hr;cases hr
  rw [h1] at hr
  simp only [Option.some.injEq,Prod.mk.injEq] at hr
  obtain⟨rfl,rfl⟩:=hr
  obtain⟨ob0,ho0,hown0⟩:=st.old o ob' (by rw [hE];exact hlt) hn
  exact⟨ob0,ho0,fun h=>hown0 (js hob h).2⟩
 rw [hE] at hge
 rcases eR hhp ho with⟨hr,_⟩|⟨n,d,ob',hr,hn,hob⟩
 ·rw [bB β hr] at hp;cases hp
 have hge':=hhi o n d hge hr
 rw [bB β hr] at hp
 cases d with
 |none=>
  simp only [Option.some.injEq] at hp
  rw [List.getD_eq_getElem?_getD] at hp
  have hb:β[n]? =some (some p):=by
   cases h:β[n]? with
   |none=>rw [h] at hp;cases hp
   |some z=>rw [h] at hp;simp only [Option.getD_some] at hp;rw [hp]
  exact st.fresh n ob' p (by rw [hE];omega) hn hb
 |some d=>
  simp only [Option.some.injEq] at hp
  rw [List.getD_eq_getElem?_getD] at hp
  cases h:β[n]? with
  |none=>rw [h] at hp;cases hp
  |some z=>
   rw [h] at hp
   simp only [Option.getD_some] at hp
   cases z with
   |none=>cases hp
   |some q=>
    simp only [Option.map_some,Option.some.injEq] at hp
    have:=st.fresh n ob' q (by rw [hE];omega) hn h
    rw [←hp]
    exact this
def QV (P:Program) (rs:List ResultVar) (n0:Nat) (res:AV) (h':Hp) (s:S):Prop:=
 ∃ v ρ,o4 P s rs=some v∧QU n0 0 ρ=true∧eu ρ h'=true∧zH ρ res v∧lg ρ s.hp ρ h'
theorem cd {P:Program} {E:Entry} {rs:List ResultVar} {n0:Nat} {res:AV} {h':Hp} {s:S} {c:Prop} (ρ:Rho) (hc:c) (v:AV) (hr:o4 P s rs=some v) (hid:QU n0 0 ρ=true) (hsep:eu ρ h'=true) (hm:zH ρ res v∧lg ρ s.hp ρ h'):
  gW P E (QV P rs n0 res h') (.fin s c):=⟨hc,v,ρ,hr,hid,hsep,hm.1,hm.2⟩
theorem AJ {P:Program} {f:FuncId} {fn:Func} {c:Code} (hf:P.funcs[f]? =some fn) (hname:(fn.name == "runtime.NumGoroutine")=false) (hb:fn.body=some c) {args:List AV} {h h':Hp} {res:AV}
  (H:∀ E:Entry,E.h.length=h.length→gW P E (QV P fn.results.toList h.length res h') (.go [.code c] ⟨lq fn.ntmps args,h⟩ True)):ae P f args h res h':=by
 refine⟨⟨fn,hf,hname,by rw [hb];rfl⟩,fun β w vs hs hvs=>?_⟩
 refine calls_of_wp hf hb ?_
 let E:Entry:=⟨β,h,w⟩
 have hd:=(H E rfl).2
 refine hd β _ w ⟨rfl,u6 hvs,hs,hs.len,StepR.refl β h w hs.len⟩ _ fun e s' β' a' w' hK hs'=>?_
 have key:QV P fn.results.toList h.length res h' s'→a'.defers=[]∧∃ v,(results fn a'.tmps).run P w'=.ok v w'∧∃ β'' u,Ending.returned v=.returned u∧gf β'' res u∧HSim β'' h' w'∧StepR β β'' h h' w w':=by
  intro⟨v,ρ,hr,hid,hsep,hav,hhp⟩
  obtain⟨u,hrun,hu⟩:=yI hs'.hp hs'.sl hr
  have hsim:=AI (E:=E) rfl (t:=⟨[],h'⟩) (s:=⟨[],s'.hp⟩) hid hsep trivial hhp (β:=β') (a:=a') (w:=w') ⟨hs'.dfr,⟨fun i hi=>by simp [Slots.has] at hi,fun i x hx=>by simp [Slots.get] at hx⟩,hs'.hp,hs'.ent,hs'.st⟩
  exact⟨hs'.dfr,u,hrun,et β' ρ,u,rfl,wU hav hu,hsim.hp,hsim.st⟩
 cases e with
 |normal=>exact key hK
 |ret=>exact key hK
 |_=>exact hK.elim
end
section
open Go.RowKit
theorem oQ (a b:PieceD) (ha:0≤a.pos∧a.pos≤4000000000) (hb:0≤b.pos∧b.pos≤4000000000) (la:a.text.length≤1048576) (lb:b.text.length≤1048576)
  (t1:¬ a.pos+(a.text.length:Int) < b.pos) (t2:¬ b.pos+(b.text.length:Int) < a.pos):ae Tryz.prog 335 [.ag a.cs,.ag b.cs] [] (.ag (ge a b).cs) []:=by
 by_cases h:b.pos < a.pos
 ·obtain⟨n,hn⟩:=Int.eq_ofNat_of_zero_le (show 0≤a.pos - b.pos by omega)
  rw [xK hn (by omega)]
  have hp:a.pos=b.pos+(n:Int):=by omega
  refine qE Tryz.func335 Tryz.ntmps335 Tryz.results335 fun E hE=>?_
  have hlt:(b.text.take n).length=n:=by simp;omega
  have hmin:(if a.pos - b.pos < (b.text.length:Int) then a.pos - b.pos else (b.text.length:Int))=(n:Int):=by split<;>omega
  refine qD [0,1,2,3,4,5,6,7,8,9,10,11,12,13,14,15,16,17,18] ?_
  try simp (disch:=omega) only [go_sem,seval,hmin]
  refine⟨qC,ac 400 ?_⟩
  try simp (disch:=omega) only [go_sem,seval,hmin]
  refine qB (fun h3=>?_) fun h3=>?_
  ·have he:(b.pos+(((b.text.take n).length:Int)+(a.text.length:Int)) - b.pos).toNat=n+a.text.length:=by omega
   have hd:(b.text.drop (n+a.text.length)).length≤b.text.length:=by simp
   refine qD [0,1,2,3,4,5,6,7,8,9,10,11] ?_
   try simp (disch:=omega) only [go_sem,seval,he]
   refine⟨by (try simp (disch:=omega) only [go_sem,List.length_set,seval,he])<;>omega,ac 400 ?_⟩
   try simp (disch:=omega) only [go_sem,seval,he]
   exact qF []
  refine qJ [] ?_
  rw [List.drop_of_length_le (by omega)]
  simp
 obtain⟨n,hn⟩:=Int.eq_ofNat_of_zero_le (show 0≤b.pos - a.pos by omega)
 rw [xL hn]
 have hp:b.pos=a.pos+(n:Int):=by omega
 refine qE Tryz.func335 Tryz.ntmps335 Tryz.results335 fun E hE=>?_
 refine qB (fun h3=>?_) fun h3=>?_
 ·have he:(a.pos+(a.text.length:Int) - b.pos).toNat=a.text.length - n:=by omega
  have hd:(b.text.drop (a.text.length - n)).length≤b.text.length:=by simp
  refine qD [0,1,2,3,4,5,6,7,8,9,10,11] ?_
  try simp (disch:=omega) only [go_sem,seval,he]
  refine⟨by (try simp (disch:=omega) only [go_sem,List.length_set,seval,he])<;>omega,ac 400 ?_⟩
  try simp (disch:=omega) only [go_sem,seval,he]
  exact qF []
 refine qJ [] ?_
 rw [List.drop_of_length_le (by omega)]
 simp
theorem m9 (a b:PieceD) (ha:0≤a.pos∧a.pos≤4000000000) (hb:0≤b.pos∧b.pos≤4000000000) (la:a.text.length≤1048576) (lb:b.text.length≤1048576)
  (t1:¬ a.pos+(a.text.length:Int) < b.pos) (t2:¬ b.pos+(b.text.length:Int) < a.pos):ae Tryz.prog 333 [.ag a.cs,.ag b.cs] [] (.ag (ge a b).cs) []:=by
 by_cases h:b.pos < a.pos
 ·obtain⟨n,hn⟩:=Int.eq_ofNat_of_zero_le (show 0≤a.pos - b.pos by omega)
  rw [xK hn (by omega)]
  have hp:a.pos=b.pos+(n:Int):=by omega
  have hlt:(b.text.take n).length=n:=by simp;omega
  refine qE Tryz.func333 Tryz.ntmps333 Tryz.results333 fun E hE=>?_
  try simp (disch:=omega) only [go_sem,seval,hn]
  refine qB (fun h3=>?_) fun h3=>?_
  ·refine qX ?_
   refine qB (fun h4=>?_) fun h4=>?_
   ·have he:((n:Int)+(a.text.length:Int)).toNat=n+a.text.length:=by omega
    have hd:(b.text.drop (n+a.text.length)).length≤b.text.length:=by simp
    try simp (disch:=omega) only [go_sem,seval,he]
    refine ah [] (by (try simp (disch:=omega) only [go_sem,List.length_set,seval,he])<;>omega) _ (by simp only [go_sem];rfl) (by rfl) (by rfl) ?_
    simp (disch:=omega) only [go_sem,seval]
   refine qX ?_
   refine qJ [] ?_
   rw [List.drop_of_length_le (by omega)]
   simp
  have h5:n=b.text.length:=by omega
  refine qX ?_
  refine qJ [] ?_
  rw [List.drop_of_length_le (by omega),List.take_of_length_le (by omega)]
  simp
 obtain⟨n,hn⟩:=Int.eq_ofNat_of_zero_le (show 0≤b.pos - a.pos by omega)
 rw [xL hn]
 have hp:b.pos=a.pos+(n:Int):=by omega
 refine qE Tryz.func333 Tryz.ntmps333 Tryz.results333 fun E hE=>?_
 try simp (disch:=omega) only [go_sem,seval,hn]
 refine qB (fun h3=>?_) fun h3=>?_
 ·refine qJ [] ?_
  rw [List.drop_of_length_le (by omega)]
  simp
 have he:((b.text.length:Int) - ((n:Int)+(b.text.length:Int) - (a.text.length:Int))).toNat=a.text.length - n:=by omega
 have hd:(b.text.drop (a.text.length - n)).length≤b.text.length:=by simp
 refine qD [0,1,2,3,4,5,6,7,8,9,10,11,12,13,14] ?_
 try simp (disch:=omega) only [go_sem,seval,he]
 refine⟨by (try simp (disch:=omega) only [go_sem,List.length_set,seval,he])<;>omega,ac 400 ?_⟩
 try simp (disch:=omega) only [go_sem,seval,he]
 exact qF []
end
section
open Go.RowKit
theorem tr (p:PiecesD) (n:Int) (t:List UInt8) (hs:SmallP p):ae Tryz.prog 330 [.ag (p.cs 0),.sc (.int .i64 n),.sc (.st t)] (p.hp false) (.ag ((ca p n t).cs 1))
  (p.hp false++(ca p n t).hp true):=by
 have hO:=bY p hs.list
 have hN:=iS p
 have hf:=YM (p:=p) (n:=n) (t:=t)
 have hold:=EP (p:=p) (n:=n) (t:=t)
 have hcut:=fun k=> @EQ p n t k
 have hnew:=ER (p:=p) (n:=n) (t:=t)
 have hok:=tq.eq_1 p n t
 generalize ca p n t=R at*
 refine qE Tryz.func330 Tryz.ntmps330 Tryz.results330 fun E hE=>?_
 refine qK (hO) (qI 0 1) ?_
 refine qB (fun h1=>?_) fun h1=>?_
 ·refine qK (cu [n] (by simp)) (qI 3 1) ?_
  simp only [List.all_cons,List.all_nil,Bool.and_true]
  refine qX ?_
  refine qB (fun h2=>?_) fun h2=>?_
  ·refine qX ?_
   refine qK (aO (t.length:Int) 1 200) [] ?_
   refine qB (fun h3=>?_) fun h3=>?_
   ·rw [hf (by rw [hok];simp [h3])]
    refine qX ?_
    refine qK (ay p hs.list) (qI 0 1) ?_
    exact qF (qI 0 1++qI 4 1)
   have hok1:tq p n t=true:=by rw [hok];simp [h1,h2,h3]
   have hF:=fd h1 hs
   have hn1:=h2
   have hn3:=h3
   simp only [iQ,cr,Bool.and_eq_true,decide_eq_true_eq] at hn1 hn3
   have hr0:=hF.r0
   have hr1:=hF.r1
   have hrl:=hF.list
   have hrr:=hF.ready
   have hnx:=hF.next
   refine qX ?_
   refine qK (hN) (qI 0 1) ?_
   refine qB (fun h4=>?_) fun h4=>?_
   ·obtain⟨m,hm⟩:=Int.eq_ofNat_of_zero_le (show 0≤nextOf p - n by omega)
    by_cases h7:t.length≤m
    ·rw [hold hok1 (by omega)]
     have hmin:(if nextOf p - n < (t.length:Int) then nextOf p - n else (t.length:Int))=(t.length:Int):=by split<;>omega
     have hz:(t.drop t.length == [])=true:=by simp
     try simp (disch:=omega) only [go_sem,seval,hmin,hz]
     refine qX ?_
     refine qK (ay p hs.list) (qI 0 1) ?_
     exact qF (qI 0 1++qI 5 1)
    rw [hcut m hok1 hm (by omega) (by omega)]
    have hmin:(if nextOf p - n < (t.length:Int) then nextOf p - n else (t.length:Int))=(m:Int):=by split<;>omega
    have hz:(t.drop m == [])=false:=by simp;omega
    have hI0:PpI 0 ⟨⟨nextOf p,t.drop m⟩,false,[]⟩:=m7 (by omega) (by omega) (by simp;omega)
    try simp (disch:=omega) only [go_sem,seval,hmin,hz]
    obtain⟨G,hG⟩:∃ G,nT ⟨⟨nextOf p,t.drop m⟩,false,[]⟩ p.list=G:=⟨_,rfl⟩
    refine an 1 hE (fun s (x:Nat×PpS)=>s.at (qU [0,3,12,45,60,47]) [(59,.sc (.int .i64 (x.1:Nat))),(10,.sc (.bo x.2.laid))] ([some ⟨p.list.map PieceD.cs,2,256,false,true⟩,some ⟨[p.cs 0],3,42,true,false⟩,some ⟨[[.int .i64 0,.st [],.nil]],3,42,true,false⟩,some ⟨[[.int .i64 n]],1,3,true,true⟩,some ⟨[[.int .i64 p.read,.st p.ready,.sl 6 0 x.2.acc.length]],3,42,true,false⟩,some ⟨[x.2.own.cs],2,256,true,false⟩,some ⟨x.2.acc.map PieceD.cs,2,256,true,true⟩])) (fun (x:Nat×PpS)=>x.1≤p.list.length∧PpI x.1 x.2∧nT x.2 (p.list.drop x.1)=G) (fun (x:Nat×PpS)=>p.list.length - x.1) (0,⟨⟨nextOf p,t.drop m⟩,false,[]⟩) (qI 0 6++qO 1) (qC) (⟨Nat.zero_le _,hI0,hG⟩) (af (by rfl) (by rfl) ?_) fun x hx N hN=>?_
    ·exact qY
    obtain⟨k,g⟩:=x
    obtain⟨hk1,hI,hgo⟩:=hx
    dsimp only at hk1 hI hgo
    have hIo:=hI.own
    have hIp:=hI.pos
    have hIa:=hI.acc
    have hac:g.acc.length≤100:=by split at hIa<;>omega
    refine qR ?_
    refine qB (fun h=>?_) fun h=>?_
    ·have hm:=hF.texts p.list[k] (List.getElem_mem h)
     obtain⟨hm1,hm2,hm3⟩:=hm
     rw [kS h] at hgo
     refine qX ?_
     refine qB (fun h2=>?_) fun h2=>?_
     ·rw [mZ (by omega)] at hgo
      refine qX ?_
      refine⟨qC,hN _ (k+1,⟨g.own,g.laid,g.acc++[p.list[k]]⟩) (qI 0 6++qI 9 1) (by (try dsimp only);exact⟨by omega,xM hI hm1,hgo⟩) (by (try dsimp only);omega) (af (by rfl) (by rfl) ?_)⟩
      try simp (disch:=omega) only [go_sem,seval]
      try simp [PieceD.cs]
     refine qX ?_
     refine qB (fun h3=>?_) fun h3=>?_
     ·rw [m0 (by omega) (by omega)] at hgo
      cases hgl:g.laid with
      |true=>
       rw [hgl,if_pos rfl] at hgo
       try simp (disch:=omega) only [go_sem,seval,hgl]
       refine⟨qC,hN _ (k+1,⟨g.own,true,g.acc++[p.list[k]]⟩) (qI 0 6++qI 9 1) (by (try dsimp only);exact⟨by omega,vE hI hgl hm1,hgo⟩) (by (try dsimp only);omega) (af (by rfl) (by rfl) ?_)⟩
       try simp (disch:=omega) only [go_sem,seval]
       try simp [PieceD.cs]
      |false=>
       rw [hgl,if_neg (by simp)] at hgo
       try simp (disch:=omega) only [go_sem,seval,hgl]
       refine⟨qC,hN _ (k+1,⟨g.own,true,g.acc++[g.own]++[p.list[k]]⟩) (qI 0 6++qI 11 1) (by (try dsimp only);exact⟨by omega,vF hI (by omega) hgl hm1,hgo⟩) (by (try dsimp only);omega) (af (by rfl) (by rfl) ?_)⟩
       try simp (disch:=omega) only [go_sem,seval]
       try simp [PieceD.cs]
     rw [m4 (by omega) (by omega)] at hgo
     refine qX ?_
     refine qK (oQ p.list[k] g.own (by omega) (by omega) (by omega) (by omega) (by omega) (by omega)) [] ?_
     refine⟨qC,hN _ (k+1,⟨ge p.list[k] g.own,g.laid,g.acc⟩) (qI 0 7) (by (try dsimp only);exact⟨by omega,z0 hI hm1 hm2 hm3,hgo⟩) (by (try dsimp only);omega) (af (by rfl) (by rfl) ?_)⟩
     try simp (disch:=omega) only [go_sem,seval]
     try simp [PieceD.cs]
    have hkl:k=p.list.length:=by omega
    rw [m5 (by omega)] at hgo
    subst hgo
    obtain⟨y,r,hyr,hyt,hyl⟩:=jJ hI (by omega)
    rw [m8 hG hyr]
    have hyr':=hyr
    rw [oP] at hyr'
    cases hgl:g.laid with
    |true=>
     rw [hgl,if_pos rfl] at hyr'
     rw [hyr']
     try simp (disch:=omega) only [go_sem,seval,hgl,List.map_cons]
     refine qX ?_
     refine qB (fun h5=>?_) fun h5=>?_
     ·refine qD [0,1,2,3,4,5,6,7,8,9] ?_
      refine⟨qC,ac 400 ?_⟩
      have hE1:= @iV p y r h5
      refine qX ?_
      refine qK (bY ⟨p.read,p.ready++y.text,r⟩ (by simp at hyl⊢;omega)) [some (6,some 1)] ?_
      refine qB (fun h6=>?_) fun h6=>?_
      ·rw [dM (by rw [hE1];exact h6)]
       refine qX ?_
       refine qK (ay p hs.list) (qI 0 1) ?_
       exact qF (qI 0 1++qI 7 1)
      rw [dN (by rw [hE1];exact h6),hE1]
      refine qX ?_
      refine qK (ay ⟨p.read,p.ready++y.text,r⟩ (by simp at hyl⊢;omega)) [some (6,some 1)] ?_
      refine ah (qI 0 1++qI 7 1) (qC) _ (by simp only [go_sem];rfl) (by rfl) (by rfl) ?_
      simp (disch:=omega) only [go_sem,seval]
      try simp
     have hE1:= @iW p y r h5
     refine qX ?_
     refine qK (bY ⟨p.read,p.ready,y::r⟩ (by simp at hyl⊢;omega)) (qI 6 1) ?_
     refine qB (fun h6=>?_) fun h6=>?_
     ·rw [dM (by rw [hE1];exact h6)]
      refine qX ?_
      refine qK (ay p hs.list) (qI 0 1) ?_
      exact qF (qI 0 1++qI 7 1)
     rw [dN (by rw [hE1];exact h6),hE1]
     refine qX ?_
     refine qK (ay ⟨p.read,p.ready,y::r⟩ (by simp at hyl⊢;omega)) (qI 6 1) ?_
     refine ah (qI 0 1++qI 7 1) (qC) _ (by simp only [go_sem];rfl) (by rfl) (by rfl) ?_
     simp (disch:=omega) only [go_sem,seval]
     try simp
    |false=>
     rw [hgl,if_neg (by simp)] at hyr'
     have e1:g.acc.map PieceD.cs++[g.own.cs]=PieceD.cs y::r.map PieceD.cs:=by rw [←List.map_cons,←hyr'];simp
     have e2:g.acc.length+1=r.length+1:=by have:=congrArg List.length hyr';simpa using this
     simp only [PieceD.cs] at e1
     try simp (disch:=omega) only [go_sem,seval,hgl,e1,e2]
     refine qX ?_
     refine qB (fun h5=>?_) fun h5=>?_
     ·refine qD [0,1,2,3,4,5,6,7,8,9] ?_
      refine⟨qC,ac 400 ?_⟩
      have hE1:= @iV p y r h5
      refine qX ?_
      refine qK (bY ⟨p.read,p.ready++y.text,r⟩ (by simp at hyl⊢;omega)) [some (8,some 1)] ?_
      refine qB (fun h6=>?_) fun h6=>?_
      ·rw [dM (by rw [hE1];exact h6)]
       refine qX ?_
       refine qK (ay p hs.list) (qI 0 1) ?_
       exact qF (qI 0 1++qI 9 1)
      rw [dN (by rw [hE1];exact h6),hE1]
      refine qX ?_
      refine qK (ay ⟨p.read,p.ready++y.text,r⟩ (by simp at hyl⊢;omega)) [some (8,some 1)] ?_
      refine ah (qI 0 1++qI 9 1) (qC) _ (by simp only [go_sem];rfl) (by rfl) (by rfl) ?_
      simp (disch:=omega) only [go_sem,seval]
      try simp
     have hE1:= @iW p y r h5
     refine qX ?_
     refine qK (bY ⟨p.read,p.ready,y::r⟩ (by simp at hyl⊢;omega)) (qI 8 1) ?_
     refine qB (fun h6=>?_) fun h6=>?_
     ·rw [dM (by rw [hE1];exact h6)]
      refine qX ?_
      refine qK (ay p hs.list) (qI 0 1) ?_
      exact qF (qI 0 1++qI 9 1)
     rw [dN (by rw [hE1];exact h6),hE1]
     refine qX ?_
     refine qK (ay ⟨p.read,p.ready,y::r⟩ (by simp at hyl⊢;omega)) (qI 8 1) ?_
     refine ah (qI 0 1++qI 9 1) (qC) _ (by simp only [go_sem];rfl) (by rfl) (by rfl) ?_
     simp (disch:=omega) only [go_sem,seval]
     try simp
   rw [hnew hok1 (by omega)]
   have hz:(t == [])=false:=by cases t<;>simp_all
   have hI0:PpI 0 ⟨⟨n,t⟩,false,[]⟩:=m7 (by omega) (by omega) (by omega)
   try simp (disch:=omega) only [go_sem,seval,hz]
   obtain⟨G,hG⟩:∃ G,nT ⟨⟨n,t⟩,false,[]⟩ p.list=G:=⟨_,rfl⟩
   refine an 1 hE (fun s (x:Nat×PpS)=>s.at (qU [0,3,12,45,60,47]) [(59,.sc (.int .i64 (x.1:Nat))),(10,.sc (.bo x.2.laid))] ([some ⟨p.list.map PieceD.cs,2,256,false,true⟩,some ⟨[p.cs 0],3,42,true,false⟩,some ⟨[[.int .i64 0,.st [],.nil]],3,42,true,false⟩,some ⟨[[.int .i64 n]],1,3,true,true⟩,some ⟨[[.int .i64 p.read,.st p.ready,.sl 6 0 x.2.acc.length]],3,42,true,false⟩,some ⟨[x.2.own.cs],2,256,true,false⟩,some ⟨x.2.acc.map PieceD.cs,2,256,true,true⟩])) (fun (x:Nat×PpS)=>x.1≤p.list.length∧PpI x.1 x.2∧nT x.2 (p.list.drop x.1)=G) (fun (x:Nat×PpS)=>p.list.length - x.1) (0,⟨⟨n,t⟩,false,[]⟩) (qI 0 6++qO 1) (qC) (⟨Nat.zero_le _,hI0,hG⟩) (af (by rfl) (by rfl) ?_) fun x hx N hN=>?_
   ·exact qY
   obtain⟨k,g⟩:=x
   obtain⟨hk1,hI,hgo⟩:=hx
   dsimp only at hk1 hI hgo
   have hIo:=hI.own
   have hIp:=hI.pos
   have hIa:=hI.acc
   have hac:g.acc.length≤100:=by split at hIa<;>omega
   refine qR ?_
   refine qB (fun h=>?_) fun h=>?_
   ·have hm:=hF.texts p.list[k] (List.getElem_mem h)
    obtain⟨hm1,hm2,hm3⟩:=hm
    rw [kS h] at hgo
    refine qX ?_
    refine qB (fun h2=>?_) fun h2=>?_
    ·rw [mZ (by omega)] at hgo
     refine qX ?_
     refine⟨qC,hN _ (k+1,⟨g.own,g.laid,g.acc++[p.list[k]]⟩) (qI 0 6++qI 9 1) (by (try dsimp only);exact⟨by omega,xM hI hm1,hgo⟩) (by (try dsimp only);omega) (af (by rfl) (by rfl) ?_)⟩
     try simp (disch:=omega) only [go_sem,seval]
     try simp [PieceD.cs]
    refine qX ?_
    refine qB (fun h3=>?_) fun h3=>?_
    ·rw [m0 (by omega) (by omega)] at hgo
     cases hgl:g.laid with
     |true=>
      rw [hgl,if_pos rfl] at hgo
      try simp (disch:=omega) only [go_sem,seval,hgl]
      refine⟨qC,hN _ (k+1,⟨g.own,true,g.acc++[p.list[k]]⟩) (qI 0 6++qI 9 1) (by (try dsimp only);exact⟨by omega,vE hI hgl hm1,hgo⟩) (by (try dsimp only);omega) (af (by rfl) (by rfl) ?_)⟩
      try simp (disch:=omega) only [go_sem,seval]
      try simp [PieceD.cs]
     |false=>
      rw [hgl,if_neg (by simp)] at hgo
      try simp (disch:=omega) only [go_sem,seval,hgl]
      refine⟨qC,hN _ (k+1,⟨g.own,true,g.acc++[g.own]++[p.list[k]]⟩) (qI 0 6++qI 11 1) (by (try dsimp only);exact⟨by omega,vF hI (by omega) hgl hm1,hgo⟩) (by (try dsimp only);omega) (af (by rfl) (by rfl) ?_)⟩
      try simp (disch:=omega) only [go_sem,seval]
      try simp [PieceD.cs]
    rw [m4 (by omega) (by omega)] at hgo
    refine qX ?_
    refine qK (oQ p.list[k] g.own (by omega) (by omega) (by omega) (by omega) (by omega) (by omega)) [] ?_
    refine⟨qC,hN _ (k+1,⟨ge p.list[k] g.own,g.laid,g.acc⟩) (qI 0 7) (by (try dsimp only);exact⟨by omega,z0 hI hm1 hm2 hm3,hgo⟩) (by (try dsimp only);omega) (af (by rfl) (by rfl) ?_)⟩
    try simp (disch:=omega) only [go_sem,seval]
    try simp [PieceD.cs]
   have hkl:k=p.list.length:=by omega
   rw [m5 (by omega)] at hgo
   subst hgo
   obtain⟨y,r,hyr,hyt,hyl⟩:=jJ hI (by omega)
   rw [m8 hG hyr]
   have hyr':=hyr
   rw [oP] at hyr'
   cases hgl:g.laid with
   |true=>
    rw [hgl,if_pos rfl] at hyr'
    rw [hyr']
    try simp (disch:=omega) only [go_sem,seval,hgl,List.map_cons]
    refine qX ?_
    refine qB (fun h5=>?_) fun h5=>?_
    ·refine qD [0,1,2,3,4,5,6,7,8,9] ?_
     refine⟨qC,ac 400 ?_⟩
     have hE1:= @iV p y r h5
     refine qX ?_
     refine qK (bY ⟨p.read,p.ready++y.text,r⟩ (by simp at hyl⊢;omega)) [some (6,some 1)] ?_
     refine qB (fun h6=>?_) fun h6=>?_
     ·rw [dM (by rw [hE1];exact h6)]
      refine qX ?_
      refine qK (ay p hs.list) (qI 0 1) ?_
      exact qF (qI 0 1++qI 7 1)
     rw [dN (by rw [hE1];exact h6),hE1]
     refine qX ?_
     refine qK (ay ⟨p.read,p.ready++y.text,r⟩ (by simp at hyl⊢;omega)) [some (6,some 1)] ?_
     refine ah (qI 0 1++qI 7 1) (qC) _ (by simp only [go_sem];rfl) (by rfl) (by rfl) ?_
     simp (disch:=omega) only [go_sem,seval]
     try simp
    have hE1:= @iW p y r h5
    refine qX ?_
    refine qK (bY ⟨p.read,p.ready,y::r⟩ (by simp at hyl⊢;omega)) (qI 6 1) ?_
    refine qB (fun h6=>?_) fun h6=>?_
    ·rw [dM (by rw [hE1];exact h6)]
     refine qX ?_
     refine qK (ay p hs.list) (qI 0 1) ?_
     exact qF (qI 0 1++qI 7 1)
    rw [dN (by rw [hE1];exact h6),hE1]
    refine qX ?_
    refine qK (ay ⟨p.read,p.ready,y::r⟩ (by simp at hyl⊢;omega)) (qI 6 1) ?_
    refine ah (qI 0 1++qI 7 1) (qC) _ (by simp only [go_sem];rfl) (by rfl) (by rfl) ?_
    simp (disch:=omega) only [go_sem,seval]
    try simp
   |false=>
    rw [hgl,if_neg (by simp)] at hyr'
    have e1:g.acc.map PieceD.cs++[g.own.cs]=PieceD.cs y::r.map PieceD.cs:=by rw [←List.map_cons,←hyr'];simp
    have e2:g.acc.length+1=r.length+1:=by have:=congrArg List.length hyr';simpa using this
    simp only [PieceD.cs] at e1
    try simp (disch:=omega) only [go_sem,seval,hgl,e1,e2]
    refine qX ?_
    refine qB (fun h5=>?_) fun h5=>?_
    ·refine qD [0,1,2,3,4,5,6,7,8,9] ?_
     refine⟨qC,ac 400 ?_⟩
     have hE1:= @iV p y r h5
     refine qX ?_
     refine qK (bY ⟨p.read,p.ready++y.text,r⟩ (by simp at hyl⊢;omega)) [some (8,some 1)] ?_
     refine qB (fun h6=>?_) fun h6=>?_
     ·rw [dM (by rw [hE1];exact h6)]
      refine qX ?_
      refine qK (ay p hs.list) (qI 0 1) ?_
      exact qF (qI 0 1++qI 9 1)
     rw [dN (by rw [hE1];exact h6),hE1]
     refine qX ?_
     refine qK (ay ⟨p.read,p.ready++y.text,r⟩ (by simp at hyl⊢;omega)) [some (8,some 1)] ?_
     refine ah (qI 0 1++qI 9 1) (qC) _ (by simp only [go_sem];rfl) (by rfl) (by rfl) ?_
     simp (disch:=omega) only [go_sem,seval]
     try simp
    have hE1:= @iW p y r h5
    refine qX ?_
    refine qK (bY ⟨p.read,p.ready,y::r⟩ (by simp at hyl⊢;omega)) (qI 8 1) ?_
    refine qB (fun h6=>?_) fun h6=>?_
    ·rw [dM (by rw [hE1];exact h6)]
     refine qX ?_
     refine qK (ay p hs.list) (qI 0 1) ?_
     exact qF (qI 0 1++qI 9 1)
    rw [dN (by rw [hE1];exact h6),hE1]
    refine qX ?_
    refine qK (ay ⟨p.read,p.ready,y::r⟩ (by simp at hyl⊢;omega)) (qI 8 1) ?_
    refine ah (qI 0 1++qI 9 1) (qC) _ (by simp only [go_sem];rfl) (by rfl) (by rfl) ?_
    simp (disch:=omega) only [go_sem,seval]
    try simp
  rw [hf (by rw [hok];simp [h2])]
  refine qX ?_
  refine qK (ay p hs.list) (qI 0 1) ?_
  exact qF (qI 0 1++qI 4 1)
 rw [hf (by rw [hok];simp [h1])]
 refine qX ?_
 refine qK (ay p hs.list) (qI 0 1) ?_
 exact qF (qI 0 1++qI 3 1)
theorem ts (p:PiecesD) (n:Int) (t:List UInt8) (hs:SmallP p):ae Tryz.prog 317 [.ag (p.cs 0),.sc (.int .i64 n),.sc (.st t)] (p.hp false) (.ag ((ca p n t).cs 1))
  (p.hp false++(ca p n t).hp false):=by
 have hO:=bZ p hs.list
 have hN:=dZ p
 have hf:=YM (p:=p) (n:=n) (t:=t)
 have hold:=EP (p:=p) (n:=n) (t:=t)
 have hcut:=fun k=> @EQ p n t k
 have hnew:=ER (p:=p) (n:=n) (t:=t)
 have hok:=tq.eq_1 p n t
 generalize ca p n t=R at*
 refine AJ Tryz.func317 (by kernel_rfl) rfl fun E hE=>ac 400 ?_
 simp (disch:=omega) only [Tryz.ntmps317,Tryz.results317,go_sem,seval]
 refine qK (jD p hs.list) (qI 0 1) ?_
 refine qK (hO) (qI 0 1) ?_
 refine qB (fun h1=>?_) fun h1=>?_
 ·refine qK (aM n 0 1000000000) [] ?_
  rw [vg]
  refine qX ?_
  refine qB (fun h2=>?_) fun h2=>?_
  ·refine qX ?_
   refine qK (aM (t.length:Int) 1 200) [] ?_
   refine qB (fun h3=>?_) fun h3=>?_
   ·rw [hf (by rw [hok];simp [h3])]
    refine qX ?_
    refine cd (qI 0 1++qI 3 1) (qC) _ (by simp only [go_sem];rfl) (by rfl) (by rfl) ?_
    simp (disch:=omega) only [go_sem,seval]
   have hok1:tq p n t=true:=by rw [hok];simp [h1,h2,h3]
   have hF:=fd h1 hs
   have hn1:=h2
   have hn3:=h3
   simp only [iQ,cr,Bool.and_eq_true,decide_eq_true_eq] at hn1 hn3
   have hr0:=hF.r0
   have hr1:=hF.r1
   have hrl:=hF.list
   have hrr:=hF.ready
   have hnx:=hF.next
   refine qX ?_
   refine qK (hN) (qI 0 1) ?_
   refine qB (fun h4=>?_) fun h4=>?_
   ·rw [hold hok1 h4]
    refine qX ?_
    refine cd (qI 0 1++qI 3 1) (qC) _ (by simp only [go_sem];rfl) (by rfl) (by rfl) ?_
    simp (disch:=omega) only [go_sem,seval]
   refine qX ?_
   refine qB (fun h7=>?_) fun h7=>?_
   ·obtain⟨m,hm⟩:=Int.eq_ofNat_of_zero_le (show 0≤nextOf p - n by omega)
    rw [hcut m hok1 hm (by omega) (by omega)]
    have hnn:nextOf p=n+(m:Int):=by omega
    have hI0:PpI 0 ⟨⟨nextOf p,t.drop m⟩,false,[]⟩:=m7 (by omega) (by omega) (by simp;omega)
    have hadd:n+(m:Int)=nextOf p:=by omega
    try simp (disch:=omega) only [go_sem,seval,hm,hadd]
    obtain⟨G,hG⟩:∃ G,nT ⟨⟨nextOf p,t.drop m⟩,false,[]⟩ p.list=G:=⟨_,rfl⟩
    refine an 1 hE (fun s (x:Nat×PpS)=>s.at (qU [0,3,9,1,13,100]) [(12,.sc (.int .i64 (x.1:Nat))),(11,.sc (.bo x.2.laid))] ([some ⟨p.list.map PieceD.cs,2,256,false,true⟩,some ⟨[p.cs 0],3,42,true,false⟩,some ⟨[[.int .i64 0,.st [],.nil]],3,42,true,false⟩,some ⟨p.list.map PieceD.cs,2,256,true,true⟩,some ⟨[p.cs 3],3,42,true,false⟩,some ⟨[x.2.own.cs],2,256,true,false⟩,some ⟨x.2.acc.map PieceD.cs,2,256,true,true⟩,some ⟨[[.int .i64 p.read,.st p.ready,.sl 6 0 x.2.acc.length]],3,42,true,false⟩])) (fun (x:Nat×PpS)=>x.1≤p.list.length∧PpI x.1 x.2∧nT x.2 (p.list.drop x.1)=G) (fun (x:Nat×PpS)=>p.list.length - x.1) (0,⟨⟨nextOf p,t.drop m⟩,false,[]⟩) (qI 0 8) (qC) (⟨Nat.zero_le _,hI0,hG⟩) (af (by rfl) (by rfl) ?_) fun x hx N hN=>?_
    ·exact qY
    obtain⟨k,g⟩:=x
    obtain⟨hk1,hI,hgo⟩:=hx
    dsimp only at hk1 hI hgo
    have hIo:=hI.own
    have hIp:=hI.pos
    have hIa:=hI.acc
    have hac:g.acc.length≤100:=by split at hIa<;>omega
    refine qR ?_
    refine qB (fun h=>?_) fun h=>?_
    ·have hm:=hF.texts p.list[k] (List.getElem_mem h)
     obtain⟨hm1,hm2,hm3⟩:=hm
     rw [kS h] at hgo
     refine qX ?_
     refine qB (fun h2=>?_) fun h2=>?_
     ·rw [mZ (by omega)] at hgo
      refine qX ?_
      refine⟨qC,hN _ (k+1,⟨g.own,g.laid,g.acc++[p.list[k]]⟩) (qI 0 6++qI 10 1++qI 7 1) (by (try dsimp only);exact⟨by omega,xM hI hm1,hgo⟩) (by (try dsimp only);omega) (af (by rfl) (by rfl) ?_)⟩
      try simp (disch:=omega) only [go_sem,seval]
      try simp [PieceD.cs]
     refine qX ?_
     refine qB (fun h3=>?_) fun h3=>?_
     ·rw [m0 (by omega) (by omega)] at hgo
      cases hgl:g.laid with
      |true=>
       rw [hgl,if_pos rfl] at hgo
       try simp (disch:=omega) only [go_sem,seval,hgl]
       refine⟨qC,hN _ (k+1,⟨g.own,true,g.acc++[p.list[k]]⟩) (qI 0 6++qI 10 1++qI 7 1) (by (try dsimp only);exact⟨by omega,vE hI hgl hm1,hgo⟩) (by (try dsimp only);omega) (af (by rfl) (by rfl) ?_)⟩
       try simp (disch:=omega) only [go_sem,seval]
       try simp [PieceD.cs]
      |false=>
       rw [hgl,if_neg (by simp)] at hgo
       try simp (disch:=omega) only [go_sem,seval,hgl]
       refine⟨qC,hN _ (k+1,⟨g.own,true,g.acc++[g.own]++[p.list[k]]⟩) (qI 0 6++qI 12 1++qI 7 1) (by (try dsimp only);exact⟨by omega,vF hI (by omega) hgl hm1,hgo⟩) (by (try dsimp only);omega) (af (by rfl) (by rfl) ?_)⟩
       try simp (disch:=omega) only [go_sem,seval]
       try simp [PieceD.cs]
     rw [m4 (by omega) (by omega)] at hgo
     refine qX ?_
     refine qK (m9 p.list[k] g.own (by omega) (by omega) (by omega) (by omega) (by omega) (by omega)) [] ?_
     refine⟨qC,hN _ (k+1,⟨ge p.list[k] g.own,g.laid,g.acc⟩) (qI 0 8) (by (try dsimp only);exact⟨by omega,z0 hI hm1 hm2 hm3,hgo⟩) (by (try dsimp only);omega) (af (by rfl) (by rfl) ?_)⟩
     try simp (disch:=omega) only [go_sem,seval]
     try simp [PieceD.cs]
    have hkl:k=p.list.length:=by omega
    rw [m5 (by omega)] at hgo
    subst hgo
    obtain⟨y,r,hyr,hyt,hyl⟩:=jJ hI (by omega)
    rw [m8 hG hyr]
    have hyr':=hyr
    rw [oP] at hyr'
    cases hgl:g.laid with
    |true=>
     rw [hgl,if_pos rfl] at hyr'
     rw [hyr']
     try simp (disch:=omega) only [go_sem,seval,hgl,List.map_cons]
     refine qD [0,1,2,3,4,5,6,7] ?_
     refine az (dZ ⟨p.read,p.ready,y::r⟩) (qI 6 1) ?_
     refine⟨qC,ac 400 ?_⟩
     rw [show nextOf ⟨p.read,p.ready,y::r⟩=nextOf p from rfl]
     refine qX ?_
     refine qB (fun h5=>?_) fun h5=>?_
     ·refine qD [0,1,2,3,4,5,6,7,8,9] ?_
      refine⟨qC,ac 400 ?_⟩
      have hE1:= @iV p y r h5
      refine qX ?_
      refine qK (bZ ⟨p.read,p.ready++y.text,r⟩ (by simp at hyl⊢;omega)) [some (6,some 1)] ?_
      refine qB (fun h6=>?_) fun h6=>?_
      ·rw [dM (by rw [hE1];exact h6)]
       refine qX ?_
       refine cd (qI 0 1++qI 3 1) (qC) _ (by simp only [go_sem];rfl) (by rfl) (by rfl) ?_
       simp (disch:=omega) only [go_sem,seval]
      rw [dN (by rw [hE1];exact h6),hE1]
      refine qX ?_
      refine cd [some (0,none),some (6,some 1)] (qC) _ (by simp only [go_sem];rfl) (by rfl) (by rfl) ?_
      simp (disch:=omega) only [go_sem,seval]
      try simp
     have hE1:= @iW p y r h5
     refine qX ?_
     refine qK (bZ ⟨p.read,p.ready,y::r⟩ (by simp at hyl⊢;omega)) (qI 6 1) ?_
     refine qB (fun h6=>?_) fun h6=>?_
     ·rw [dM (by rw [hE1];exact h6)]
      refine qX ?_
      refine cd (qI 0 1++qI 3 1) (qC) _ (by simp only [go_sem];rfl) (by rfl) (by rfl) ?_
      simp (disch:=omega) only [go_sem,seval]
     rw [dN (by rw [hE1];exact h6),hE1]
     refine qX ?_
     refine cd (qI 0 1++qI 6 1) (qC) _ (by simp only [go_sem];rfl) (by rfl) (by rfl) ?_
     simp (disch:=omega) only [go_sem,seval]
     try simp
    |false=>
     rw [hgl,if_neg (by simp)] at hyr'
     have e1:g.acc.map PieceD.cs++[g.own.cs]=PieceD.cs y::r.map PieceD.cs:=by rw [←List.map_cons,←hyr'];simp
     have e2:g.acc.length+1=r.length+1:=by have:=congrArg List.length hyr';simpa using this
     simp only [PieceD.cs] at e1
     try simp (disch:=omega) only [go_sem,seval,hgl,e1,e2]
     refine qD [0,1,2,3,4,5,6,7] ?_
     refine az (dZ ⟨p.read,p.ready,y::r⟩) (qI 9 1) ?_
     refine⟨qC,ac 400 ?_⟩
     rw [show nextOf ⟨p.read,p.ready,y::r⟩=nextOf p from rfl]
     refine qX ?_
     refine qB (fun h5=>?_) fun h5=>?_
     ·refine qD [0,1,2,3,4,5,6,7,8,9] ?_
      refine⟨qC,ac 400 ?_⟩
      have hE1:= @iV p y r h5
      refine qX ?_
      refine qK (bZ ⟨p.read,p.ready++y.text,r⟩ (by simp at hyl⊢;omega)) [some (9,some 1)] ?_
      refine qB (fun h6=>?_) fun h6=>?_
      ·rw [dM (by rw [hE1];exact h6)]
       refine qX ?_
       refine cd (qI 0 1++qI 3 1) (qC) _ (by simp only [go_sem];rfl) (by rfl) (by rfl) ?_
       simp (disch:=omega) only [go_sem,seval]
      rw [dN (by rw [hE1];exact h6),hE1]
      refine qX ?_
      refine cd [some (0,none),some (9,some 1)] (qC) _ (by simp only [go_sem];rfl) (by rfl) (by rfl) ?_
      simp (disch:=omega) only [go_sem,seval]
      try simp
     have hE1:= @iW p y r h5
     refine qX ?_
     refine qK (bZ ⟨p.read,p.ready,y::r⟩ (by simp at hyl⊢;omega)) (qI 9 1) ?_
     refine qB (fun h6=>?_) fun h6=>?_
     ·rw [dM (by rw [hE1];exact h6)]
      refine qX ?_
      refine cd (qI 0 1++qI 3 1) (qC) _ (by simp only [go_sem];rfl) (by rfl) (by rfl) ?_
      simp (disch:=omega) only [go_sem,seval]
     rw [dN (by rw [hE1];exact h6),hE1]
     refine qX ?_
     refine cd (qI 0 1++qI 9 1) (qC) _ (by simp only [go_sem];rfl) (by rfl) (by rfl) ?_
     simp (disch:=omega) only [go_sem,seval]
     try simp
   rw [hnew hok1 (by omega)]
   have hI0:PpI 0 ⟨⟨n,t⟩,false,[]⟩:=m7 (by omega) (by omega) (by omega)
   refine qX ?_
   obtain⟨G,hG⟩:∃ G,nT ⟨⟨n,t⟩,false,[]⟩ p.list=G:=⟨_,rfl⟩
   refine an 1 hE (fun s (x:Nat×PpS)=>s.at (qU [0,3,9,1,13,100]) [(12,.sc (.int .i64 (x.1:Nat))),(11,.sc (.bo x.2.laid))] ([some ⟨p.list.map PieceD.cs,2,256,false,true⟩,some ⟨[p.cs 0],3,42,true,false⟩,some ⟨[[.int .i64 0,.st [],.nil]],3,42,true,false⟩,some ⟨p.list.map PieceD.cs,2,256,true,true⟩,some ⟨[p.cs 3],3,42,true,false⟩,some ⟨[x.2.own.cs],2,256,true,false⟩,some ⟨x.2.acc.map PieceD.cs,2,256,true,true⟩,some ⟨[[.int .i64 p.read,.st p.ready,.sl 6 0 x.2.acc.length]],3,42,true,false⟩])) (fun (x:Nat×PpS)=>x.1≤p.list.length∧PpI x.1 x.2∧nT x.2 (p.list.drop x.1)=G) (fun (x:Nat×PpS)=>p.list.length - x.1) (0,⟨⟨n,t⟩,false,[]⟩) (qI 0 8) (qC) (⟨Nat.zero_le _,hI0,hG⟩) (af (by rfl) (by rfl) ?_) fun x hx N hN=>?_
   ·exact qY
   obtain⟨k,g⟩:=x
   obtain⟨hk1,hI,hgo⟩:=hx
   dsimp only at hk1 hI hgo
   have hIo:=hI.own
   have hIp:=hI.pos
   have hIa:=hI.acc
   have hac:g.acc.length≤100:=by split at hIa<;>omega
   refine qR ?_
   refine qB (fun h=>?_) fun h=>?_
   ·have hm:=hF.texts p.list[k] (List.getElem_mem h)
    obtain⟨hm1,hm2,hm3⟩:=hm
    rw [kS h] at hgo
    refine qX ?_
    refine qB (fun h2=>?_) fun h2=>?_
    ·rw [mZ (by omega)] at hgo
     refine qX ?_
     refine⟨qC,hN _ (k+1,⟨g.own,g.laid,g.acc++[p.list[k]]⟩) (qI 0 6++qI 10 1++qI 7 1) (by (try dsimp only);exact⟨by omega,xM hI hm1,hgo⟩) (by (try dsimp only);omega) (af (by rfl) (by rfl) ?_)⟩
     try simp (disch:=omega) only [go_sem,seval]
     try simp [PieceD.cs]
    refine qX ?_
    refine qB (fun h3=>?_) fun h3=>?_
    ·rw [m0 (by omega) (by omega)] at hgo
     cases hgl:g.laid with
     |true=>
      rw [hgl,if_pos rfl] at hgo
      try simp (disch:=omega) only [go_sem,seval,hgl]
      refine⟨qC,hN _ (k+1,⟨g.own,true,g.acc++[p.list[k]]⟩) (qI 0 6++qI 10 1++qI 7 1) (by (try dsimp only);exact⟨by omega,vE hI hgl hm1,hgo⟩) (by (try dsimp only);omega) (af (by rfl) (by rfl) ?_)⟩
      try simp (disch:=omega) only [go_sem,seval]
      try simp [PieceD.cs]
     |false=>
      rw [hgl,if_neg (by simp)] at hgo
      try simp (disch:=omega) only [go_sem,seval,hgl]
      refine⟨qC,hN _ (k+1,⟨g.own,true,g.acc++[g.own]++[p.list[k]]⟩) (qI 0 6++qI 12 1++qI 7 1) (by (try dsimp only);exact⟨by omega,vF hI (by omega) hgl hm1,hgo⟩) (by (try dsimp only);omega) (af (by rfl) (by rfl) ?_)⟩
      try simp (disch:=omega) only [go_sem,seval]
      try simp [PieceD.cs]
    rw [m4 (by omega) (by omega)] at hgo
    refine qX ?_
    refine qK (m9 p.list[k] g.own (by omega) (by omega) (by omega) (by omega) (by omega) (by omega)) [] ?_
    refine⟨qC,hN _ (k+1,⟨ge p.list[k] g.own,g.laid,g.acc⟩) (qI 0 8) (by (try dsimp only);exact⟨by omega,z0 hI hm1 hm2 hm3,hgo⟩) (by (try dsimp only);omega) (af (by rfl) (by rfl) ?_)⟩
    try simp (disch:=omega) only [go_sem,seval]
    try simp [PieceD.cs]
   have hkl:k=p.list.length:=by omega
   rw [m5 (by omega)] at hgo
   subst hgo
   obtain⟨y,r,hyr,hyt,hyl⟩:=jJ hI (by omega)
   rw [m8 hG hyr]
   have hyr':=hyr
   rw [oP] at hyr'
   cases hgl:g.laid with
   |true=>
    rw [hgl,if_pos rfl] at hyr'
    rw [hyr']
    try simp (disch:=omega) only [go_sem,seval,hgl,List.map_cons]
    refine qD [0,1,2,3,4,5,6,7] ?_
    refine az (dZ ⟨p.read,p.ready,y::r⟩) (qI 6 1) ?_
    refine⟨qC,ac 400 ?_⟩
    rw [show nextOf ⟨p.read,p.ready,y::r⟩=nextOf p from rfl]
    refine qX ?_
    refine qB (fun h5=>?_) fun h5=>?_
    ·refine qD [0,1,2,3,4,5,6,7,8,9] ?_
     refine⟨qC,ac 400 ?_⟩
     have hE1:= @iV p y r h5
     refine qX ?_
     refine qK (bZ ⟨p.read,p.ready++y.text,r⟩ (by simp at hyl⊢;omega)) [some (6,some 1)] ?_
     refine qB (fun h6=>?_) fun h6=>?_
     ·rw [dM (by rw [hE1];exact h6)]
      refine qX ?_
      refine cd (qI 0 1++qI 3 1) (qC) _ (by simp only [go_sem];rfl) (by rfl) (by rfl) ?_
      simp (disch:=omega) only [go_sem,seval]
     rw [dN (by rw [hE1];exact h6),hE1]
     refine qX ?_
     refine cd [some (0,none),some (6,some 1)] (qC) _ (by simp only [go_sem];rfl) (by rfl) (by rfl) ?_
     simp (disch:=omega) only [go_sem,seval]
     try simp
    have hE1:= @iW p y r h5
    refine qX ?_
    refine qK (bZ ⟨p.read,p.ready,y::r⟩ (by simp at hyl⊢;omega)) (qI 6 1) ?_
    refine qB (fun h6=>?_) fun h6=>?_
    ·rw [dM (by rw [hE1];exact h6)]
     refine qX ?_
     refine cd (qI 0 1++qI 3 1) (qC) _ (by simp only [go_sem];rfl) (by rfl) (by rfl) ?_
     simp (disch:=omega) only [go_sem,seval]
    rw [dN (by rw [hE1];exact h6),hE1]
    refine qX ?_
    refine cd (qI 0 1++qI 6 1) (qC) _ (by simp only [go_sem];rfl) (by rfl) (by rfl) ?_
    simp (disch:=omega) only [go_sem,seval]
    try simp
   |false=>
    rw [hgl,if_neg (by simp)] at hyr'
    have e1:g.acc.map PieceD.cs++[g.own.cs]=PieceD.cs y::r.map PieceD.cs:=by rw [←List.map_cons,←hyr'];simp
    have e2:g.acc.length+1=r.length+1:=by have:=congrArg List.length hyr';simpa using this
    simp only [PieceD.cs] at e1
    try simp (disch:=omega) only [go_sem,seval,hgl,e1,e2]
    refine qD [0,1,2,3,4,5,6,7] ?_
    refine az (dZ ⟨p.read,p.ready,y::r⟩) (qI 9 1) ?_
    refine⟨qC,ac 400 ?_⟩
    rw [show nextOf ⟨p.read,p.ready,y::r⟩=nextOf p from rfl]
    refine qX ?_
    refine qB (fun h5=>?_) fun h5=>?_
    ·refine qD [0,1,2,3,4,5,6,7,8,9] ?_
     refine⟨qC,ac 400 ?_⟩
     have hE1:= @iV p y r h5
     refine qX ?_
     refine qK (bZ ⟨p.read,p.ready++y.text,r⟩ (by simp at hyl⊢;omega)) [some (9,some 1)] ?_
     refine qB (fun h6=>?_) fun h6=>?_
     ·rw [dM (by rw [hE1];exact h6)]
      refine qX ?_
      refine cd (qI 0 1++qI 3 1) (qC) _ (by simp only [go_sem];rfl) (by rfl) (by rfl) ?_
      simp (disch:=omega) only [go_sem,seval]
     rw [dN (by rw [hE1];exact h6),hE1]
     refine qX ?_
     refine cd [some (0,none),some (9,some 1)] (qC) _ (by simp only [go_sem];rfl) (by rfl) (by rfl) ?_
     simp (disch:=omega) only [go_sem,seval]
     try simp
    have hE1:= @iW p y r h5
    refine qX ?_
    refine qK (bZ ⟨p.read,p.ready,y::r⟩ (by simp at hyl⊢;omega)) (qI 9 1) ?_
    refine qB (fun h6=>?_) fun h6=>?_
    ·rw [dM (by rw [hE1];exact h6)]
     refine qX ?_
     refine cd (qI 0 1++qI 3 1) (qC) _ (by simp only [go_sem];rfl) (by rfl) (by rfl) ?_
     simp (disch:=omega) only [go_sem,seval]
    rw [dN (by rw [hE1];exact h6),hE1]
    refine qX ?_
    refine cd (qI 0 1++qI 9 1) (qC) _ (by simp only [go_sem];rfl) (by rfl) (by rfl) ?_
    simp (disch:=omega) only [go_sem,seval]
    try simp
  rw [hf (by rw [hok];simp [h2])]
  refine qX ?_
  refine cd (qI 0 1++qI 3 1) (qC) _ (by simp only [go_sem];rfl) (by rfl) (by rfl) ?_
  simp (disch:=omega) only [go_sem,seval]
 rw [hf (by rw [hok];simp [h1])]
 refine qX ?_
 refine cd (qI 0 1++qI 3 1) (qC) _ (by simp only [go_sem];rfl) (by rfl) (by rfl) ?_
 simp (disch:=omega) only [go_sem,seval]
end
section
open Go.RowKit
theorem tt (e:EndD) (x:LetterD) (hs:Small e) (hsp:SmallP e.inp):ae Tryz.prog 307 [.ag (e.cs 0),.ag x.cs] (e.hp false) (.tu [.ag ((co e x).1.cs 7),.sc (.sl 14 0 (co e x).2.length)])
  (e.hp false++((co e x).1.hp true++[some ⟨(co e x).2.map LetterD.cs,19,91,true,true⟩])):=by
 have hC:=(qH (aK e))
 have hK:=(qH (bf e))
 have hS:=ee e x (by have:=hs.subs;omega)
 have hL:=bt x
 have hbs:=eG e x
 have hP:=tr e.inp x.pos x.text hsp
 have hbd:=fV e x
 have hf:=rr (e:=e) (x:=x)
 have ht:=fun (n:Nat)=> @rt e x n
 have hok:=rq.eq_1 e x
 have hql:(rp e x).list.length≤1048576:=kz (by have:=hs.list;omega)
 rw [show ca e.inp x.pos x.text=rp e x from rfl] at hP
 generalize rp e x=Q at*
 generalize co e x=R at*
 refine qE Tryz.func307 Tryz.ntmps307 Tryz.results307 fun E hE=>?_
 refine qK (hC) (qI 0 7) ?_
 refine qK (hS) (qI 0 7) ?_
 rcases hbs with hk|⟨hk0,hk1⟩
 ·rw [hk]
  refine qX ?_
  refine qK (hK) (qI 0 7) ?_
  refine qB (fun h1=>?_) fun h1=>?_
  ·refine qK (hL) [] ?_
   refine qB (fun h2=>?_) fun h2=>?_
   ·rw [hf (by rw [hok];have:=cb (e:=e) (x:=x) (by rintro⟨_,_,hh⟩;omega);simp;omega)]
    refine qX ?_
    exact qF (qI 0 7++qI 10 7++qO 1)
   rw [hf (by rw [hok];have:=cb (e:=e) (x:=x) (by rintro⟨_,hh,_⟩;rw [h2] at hh;cases hh);simp;omega)]
   refine qX ?_
   exact qF (qI 0 7++qI 10 7++qO 1)
  rw [hf (by rw [hok];have:=cb (e:=e) (x:=x) (by rintro⟨hh,_⟩;rw [h1] at hh;cases hh);simp;omega)]
  refine qX ?_
  exact qF (qI 0 7++qI 10 7++qO 1)
 obtain⟨n,hk⟩:=Int.eq_ofNat_of_zero_le hk0
 have hn:n < e.subs.length:=by omega
 rw [hk]
 refine qX ?_
 refine qK (hK) (qI 0 7) ?_
 refine qB (fun h1=>?_) fun h1=>?_
 ·refine qK (hL) [] ?_
  refine qB (fun h2=>?_) fun h2=>?_
  ·have hon:=kq h1 h2 hk
   have hq1:=h1
   refine qX ?_
   refine qK (hP) (qI 4 1) ?_
   refine qK (iS Q) (qI 18 1) ?_
   refine qB (fun h7=>?_) fun h7=>?_
   ·rw [hf (by rw [hok];simp;omega)]
    refine qX ?_
    exact qF (qI 0 7++qI 10 7++qO 1)
   rw [ht _ (by rw [hok];simp [hon];omega) hon hn]
   refine qX ?_
   refine aT [(13,14)] [(qU [0,2,3,7,2,1,10,6]),[0,1,3,4,5,6,7,8,9,2,10,11,12,14,13,15]] (by kernel_rfl) (qC) (by kernel_rfl) ?_
   simp only [aQ]
   refine⟨aa 400 ?_,aa 400 ?_⟩
   all_goals simp (disch:=omega) only [go_sem,seval]
   all_goals
    refine az (di x) [] ?_
    refine az (iS Q) (qI 18 1) ?_
    refine az (bg (ak x) { aw with kind:=12,sgn:=e.subs[n].give,pos:=nextOf Q }) [] ?_
    refine qG ?_
    refine ah (qI 0 7++qI 10 4++qI 18 1++qI 15 2++qI 20 1) (qC) _ (by simp only [go_sem];rfl) (by rfl) (by rfl) ?_
    simp (disch:=omega) only [go_sem,seval]
    try simp [z1,bc,LetterD.cs]
  rw [hf (by rw [hok];have:=cb (e:=e) (x:=x) (by rintro⟨_,hh,_⟩;rw [h2] at hh;cases hh);simp;omega)]
  refine qX ?_
  exact qF (qI 0 7++qI 10 7++qO 1)
 rw [hf (by rw [hok];have:=cb (e:=e) (x:=x) (by rintro⟨hh,_⟩;rw [h1] at hh;cases hh);simp;omega)]
 refine qX ?_
 exact qF (qI 0 7++qI 10 7++qO 1)
theorem tv (e:EndD) (x:LetterD) (hs:Small e) (hsp:SmallP e.inp):ae Tryz.prog 290 [.ag (e.cs 0),.ag x.cs] (e.hp false) (.tu [.ag ((co e x).1.cs 7),.sc (.sl 14 0 (co e x).2.length)])
  (e.hp false++((co e x).1.hpS++[some ⟨(co e x).2.map LetterD.cs,19,91,true,true⟩])):=by
 have hC:=(qH (aD e))
 have hK:=(qH (be e))
 have hS:=gr e x hs
 have hP:=ts e.inp x.pos x.text hsp
 have hbd:=fV e x
 have hf:=rr (e:=e) (x:=x)
 have ht:=fun (n:Nat)=> @rt e x n
 have hok:=rq.eq_1 e x
 have hql:(rp e x).list.length≤1048576:=kz (by have:=hs.list;omega)
 rw [show ca e.inp x.pos x.text=rp e x from rfl] at hP
 generalize rp e x=Q at*
 generalize co e x=R at*
 refine qE Tryz.func290 Tryz.ntmps290 Tryz.results290 fun E hE=>?_
 refine qK (hC) (qI 0 7) ?_
 refine qK (hS) (qI 0 7) ?_
 rcases hbd with hon|⟨n,hon,hk,hn,hq1,hq2⟩
 ·rw [hf (by rw [hok];simp [hon]),hon]
  refine qX ?_
  exact qF (qI 0 7++qI 10 7++qI 18 1)
 rw [hon]
 refine qX ?_
 refine qX ?_
 refine qK (hP) (qI 4 1) ?_
 refine qK (dZ Q) (qI 19 1) ?_
 refine qB (fun h7=>?_) fun h7=>?_
 ·rw [hf (by rw [hok];simp;omega)]
  refine qX ?_
  exact qF (qI 0 7++qI 10 7++qI 18 1)
 rw [ht _ (by rw [hok];simp [hon];omega) hon hn]
 refine qX ?_
 refine aT [(0,15),(3,0),(11,0),(13,0),(14,0)] [(qU [1,2,4,7,3,1,11,4,0,1,15,3]),(qU [1,2,4,7,3,1,11,3,0,1,14,4]),(qU [1,2,4,7,3,1,11,2,0,1,13,5]),(qU [1,2,4,7,3,1,0,1,11,7]),(qU [1,2,4,7,0,1,3,1,11,7]),(qU [1,2,4,7,3,1,11,5,0,1,16,2])] (by kernel_rfl) (qC) (by kernel_rfl) ?_
 simp only [aQ]
 refine⟨aa 400 ?_,aa 400 ?_,aa 400 ?_,aa 400 ?_,aa 400 ?_,aa 400 ?_⟩
 all_goals simp (disch:=omega) only [go_sem,seval]
 all_goals
  refine az (ci x) [] ?_
  refine az (dZ Q) (qI 19 1) ?_
  refine az (aX (ak x) { aw with kind:=12,sgn:=e.subs[n].give,pos:=nextOf Q }) [] ?_
  refine qG ?_
  refine ah (qI 0 7++qI 10 4++qI 19 1++qI 15 2++qI 22 1) (qC) _ (by simp only [go_sem];rfl) (by rfl) (by rfl) ?_
  simp (disch:=omega) only [go_sem,seval]
  try simp [z1,bc,LetterD.cs]
end
section
open Go.RowKit
theorem zf {l:List HalfD} {h:HalfD} (hl:l.length≤1048576):(bQ l h).1.length≤1048576:=by
 rw [bQ];split
 ·rename_i hh;have:=bH hh;dsimp only;omega
 exact hl
theorem rx {l:List AddrD} {a:AddrD} (hl:l.length≤1048576):(bn l a).1.length≤1048576:=by
 rw [bn];split
 ·rename_i hh;have:=jF hh;dsimp only;omega
 exact hl
theorem oT {l:List AddrD} {n:Int} (hl:l.length≤1048576):(bz l n).1.length≤1048576:=by
 rw [bz];split
 ·exact hl
 simp only [List.length_append,List.length_take,List.length_drop];omega
theorem xS {l:List HalfD} {r:RoadD} (hl:l.length≤1048576):(dp l r).length≤1048576:=by
 rw [dp];split
 ·exact hl
 simp only [List.length_append,List.length_take,List.length_drop];omega
theorem nU {e:EndD} (h:aj e=true):e.done.length≤256∧e.over.length≤256:=by
 simp only [aj,Bool.and_eq_true] at h
 exact⟨by have:=rj (l:=e.done) (m:=e.own) (by simp_all);omega,by have:=rj (l:=e.over) (m:=e.far) (by simp_all);omega⟩
theorem No {e:EndD} {x:LetterD} (h:0≤gI e x):aj e=true:=by
 rcases fV e x with h1|⟨n,_,_,_,h2,_⟩
 ·omega
 exact h2
theorem o8 {e:EndD} {x:LetterD} (hs:Small e):Small (bX e x).1:=by
 rw [bX];split
 ·rename_i h
  simp only [kR,Bool.and_eq_true,decide_eq_true_eq] at h
  exact⟨hs.own,by simp [gp],by simp only [List.length_append,List.length_singleton];omega,hs.halfs,hs.list,hs.done,hs.over⟩
 exact hs
theorem ry {e:EndD} {x:LetterD} (hs:Small e):Small (cf e x).1:=by
 rw [cf];split
 ·exact⟨hs.own,by simp [gp],by simpa only [List.length_set] using hs.subs,hs.halfs,hs.list,hs.done,hs.over⟩
 exact hs
theorem rz {e:EndD} {x:LetterD} (hs:Small e):Small (bT e x).1:=by
 rw [bT];split
 ·split
  ·exact⟨hs.own,hs.far,hs.subs,by simpa only [List.length_set] using hs.halfs,hs.list,hs.done,hs.over⟩
  exact⟨hs.own,hs.far,hs.subs,zf hs.halfs,hs.list,hs.done,hs.over⟩
 exact hs
theorem mb {e:EndD} {x:LetterD} (hs:Small e):Small (bd e x).1:=by
 rw [bd];split
 ·exact⟨hs.own,hs.far,by simpa only [List.length_set] using hs.subs,hs.halfs,hs.list,hs.done,hs.over⟩
 exact hs
theorem mc {e:EndD} {x:LetterD} (hs:Small e):Small (aL e x).1:=by
 rw [aL];split
 ·split
  ·rename_i h
   simp only [sG,Bool.and_eq_true,decide_eq_true_eq] at h
   refine⟨hs.own,hs.far,?_,xS hs.halfs,hs.list,hs.done,hs.over⟩
   split<;>simp only [cS,List.length_append,List.length_set,List.length_singleton]<;>omega
  split<;>exact hs
 exact hs
theorem nc {e:EndD} {x:LetterD} (hs:Small e):Small (bh e x).1:=by
 rw [bh];dsimp only;split
 ·exact⟨hs.own,hs.far,by simpa only [cS,List.length_set] using hs.subs,hs.halfs,hs.list,hs.done,hs.over⟩
 exact hs
theorem rC {e:EndD} {x:LetterD} (hs:Small e):Small (cj e x).1:=by
 rw [cj];split
 ·exact⟨hs.own,rx hs.far,hs.subs,hs.halfs,hs.list,hs.done,hs.over⟩
 exact hs
theorem rD {e:EndD} {x:LetterD} (hs:Small e):Small (ck e x).1:=by
 rw [ck];dsimp only;split
 ·exact⟨by simpa only [List.length_set] using hs.own,hs.far,hs.subs,hs.halfs,hs.list,hs.done,hs.over⟩
 exact hs
theorem rE {e:EndD} {x:LetterD} (hs:Small e):Small (cm e x).1:=by
 rw [cm];dsimp only;split
 ·rename_i h
  simp only [nS,Bool.and_eq_true,decide_eq_true_eq] at h
  have:=(nU (No h.1)).2
  exact⟨hs.own,oT hs.far,by simpa only [List.length_map] using hs.subs,hs.halfs,hs.list,hs.done,by have:=ky e.over x.id;dsimp only;omega⟩
 exact hs
theorem rF {e:EndD} {x:LetterD} (hs:Small e):Small (co e x).1:=by
 rw [co];split
 ·exact⟨hs.own,hs.far,hs.subs,hs.halfs,kz hs.list,hs.done,hs.over⟩
 exact hs
theorem rG {e:EndD} {x:LetterD} (hs:Small e):Small (ce e x).1:=by
 rw [ce];dsimp only;split
 ·exact⟨hs.own,hs.far,hs.subs,hs.halfs,hs.list,hs.done,hs.over⟩
 exact hs
theorem o9 {e:EndD} {x:LetterD} (hs:Small e):Small (bK e x).1:=by
 rw [bK];dsimp only;split
 ·exact⟨hs.own,hs.far,by simpa only [cS,List.length_set] using hs.subs,hs.halfs,hs.list,hs.done,hs.over⟩
 exact hs
theorem xT {e:EndD} {x:LetterD} {Q:EndD×List LetterD→Prop} (h0:Q (e,[])) (h1:Q (bX e x)) (h2:Q (cf e x)) (h4:Q (bT e x)) (h5:Q (bd e x)) (h6:Q (aL e x)) (h7:Q (bh e x)) (h8:Q (cj e x)) (h9:Q (ck e x)) (h10:Q (cm e x)) (h11:Q (co e x)) (h12:Q (ce e x)) (h13:Q (bK e x)):Q (cZ e x):=by
 by_cases hc:cT e x=true
 ·by_cases k1:x.kind=1
  ·rw [y6 hc k1];exact h1
  by_cases k2:x.kind=2
  ·rw [y7 hc k2];exact h2
  by_cases k4:x.kind=4
  ·rw [y8 hc k4];exact h4
  by_cases k5:x.kind=5
  ·rw [y9 hc k5];exact h5
  by_cases k6:x.kind=6
  ·rw [y_ hc k6];exact h6
  by_cases k7:x.kind=7
  ·rw [za hc k7];exact h7
  by_cases k8:x.kind=8
  ·rw [zb hc k8];exact h8
  by_cases k9:x.kind=9
  ·rw [zc hc k9];exact h9
  by_cases k10:x.kind=10
  ·rw [vH hc k10];exact h10
  by_cases k11:x.kind=11
  ·rw [vI hc k11];exact h11
  by_cases k12:x.kind=12
  ·rw [vJ hc k12];exact h12
  by_cases k13:x.kind=13
  ·rw [vK hc k13];exact h13
  rw [y5 (by intro k hk;omega)];exact h0
 rw [vG (by simpa using hc)];exact h0
theorem gu {e:EndD} {x:LetterD} (hs:Small e):Small (cZ e x).1:=
 xT (Q:=fun r=>Small r.1) hs (o8 hs) (ry hs) (rz hs) (mb hs) (mc hs) (nc hs) (rC hs) (rD hs) (rE hs) (rF hs) (rG hs) (o9 hs)
theorem nd {e:EndD} {x:LetterD}:(cZ e x).2.length≤1:=by
 refine xT (Q:=fun r=>r.2.length≤1) (by simp) ?_ ?_ ?_ ?_ ?_ ?_ ?_ ?_ ?_ ?_ ?_ ?_
 ·rw [bX];split<;>simp
 ·rw [cf];split<;>simp
 ·rw [bT];split
  ·split<;>simp
  simp
 ·rw [bd];split<;>simp
 ·rw [aL];split
  ·split
   ·simp
   split<;>simp
  simp
 ·rw [bh];simp
 ·rw [cj];split<;>simp
 ·rw [ck];simp
 ·rw [cm];simp
 ·rw [co];split<;>simp
 ·rw [ce];simp
 rw [bK];simp
end
section
open Go.RowKit
def bk (e:EndD):Int:=if aj e=true∧(eD e.subs).length≠0 then (((eD e.subs).getD (e.pick.toNat % (eD e.subs).length) 0:Nat):Int) else -1
theorem lN (e:EndD):bk e= -1∨∃ m:Nat,m < e.subs.length∧bk e=(m:Int):=by
 rw [bk]
 split
 ·rename_i h
  right
  have hz:e.pick.toNat % (eD e.subs).length < (eD e.subs).length:=Nat.mod_lt _ (by omega)
  refine⟨_,?_,rfl⟩
  rw [List.getD_eq_getElem?_getD,List.getElem?_eq_getElem hz]
  exact EB (List.getElem_mem hz)
 exact .inl rfl
theorem iD {e:EndD} (h:aj e=true):0≤e.pick∧e.pick≤1000000000:=by
 simp only [aj,Bool.and_eq_true] at h
 have h1:=h.1.2
 simp only [List.all_cons,Bool.and_eq_true,iQ,decide_eq_true_eq] at h1
 exact h1.2.2.2.2.1
theorem rN {p:Int} {n:Nat} (hp:0≤p) (hn:0 < n):∃ z:Nat,p.tmod (n:Int)=(z:Int)∧z < n∧z=p.toNat % n:=by
 obtain⟨q,rfl⟩:=Int.eq_ofNat_of_zero_le hp
 refine⟨q % n,?_,Nat.mod_lt _ hn,by simp⟩
 rw [Int.tmod_eq_emod_of_nonneg (by omega)]
 omega
theorem md {e:EndD} {z:Nat} (h1:aj e=true) (hz:z < (eD e.subs).length) (hz2:z=e.pick.toNat % (eD e.subs).length):bk e=(((eD e.subs)[z]:Nat):Int):=by
 rw [bk,if_pos ⟨h1,by omega⟩,←hz2,List.getD_eq_getElem?_getD,List.getElem?_eq_getElem hz]
 rfl
def iE (n:Int):Int:=if 1000000000≤n then 0 else n+1
def z4 (e:EndD):Nat→List Int→List Int
 |0,out=>out
 |f+1,out=>z4 { e with pick:=iE e.pick } f (if 0≤bk e then out.set (bk e).toNat (IntKind.i64.wrap (out.getD (bk e).toNat 0+1)) else out)
def ZM (e:EndD) (n:Int):List Int:=if aj e && cr n 0 100 then z4 e n.toNat (List.replicate e.subs.length 0) else []
theorem vZ (e:EndD) (h0:e.own.length≤1048576) (h1:e.far.length≤1048576) (h2:e.subs.length≤1048576) (h3:e.halfs.length≤1048576) (h4:e.inp.list.length≤1048576) (h5:e.done.length≤1048576) (h6:e.over.length≤1048576):ae Tryz.prog 320 [.ag (e.cs 0)] (e.hp false) (.sc (.int .i64 (bk e))) (e.hp false):=by
 have hcl:=ug e.subs
 refine qE Tryz.func320 Tryz.ntmps320 Tryz.results320 fun E hE=>?_
 refine qK (tw e h2) (qI 0 7) ?_
 refine qK (bf e h0 h1 h2 h3 h4 h5 h6) (qI 0 7) ?_
 refine qB (fun g1=>?_) fun g1=>?_
 ·refine qB (fun g2=>?_) fun g2=>?_
  ·have hr:bk e= -1:=by rw [bk,if_neg (by omega)]
   rw [hr]
   exact qF (qI 0 7)
  have g2':(eD e.subs).length≠0:=by omega
  have hpk:=iD g1
  obtain⟨z,hz,hz1,hz2⟩:=rN hpk.1 (show 0 < (eD e.subs).length by omega)
  rw [md g1 hz1 hz2]
  try simp (disch:=omega) only [go_sem,seval,hz,ao hz1]
  exact qF (qI 0 7)
 have hr:bk e= -1:=by rw [bk,if_neg (by simp [g1])]
 rw [hr]
 exact qF (qI 0 7)
theorem v_ (e:EndD) (h0:e.own.length≤1048576) (h1:e.far.length≤1048576) (h2:e.subs.length≤1048576) (h3:e.halfs.length≤1048576) (h4:e.inp.list.length≤1048576) (h5:e.done.length≤1048576) (h6:e.over.length≤1048576):ae Tryz.prog 273 [.ag (e.cs 0)] (e.hp false) (.sc (.int .i64 (bk e))) (e.hp false):=by
 have hcl:=ug e.subs
 have hon:=jx e.subs
 obtain⟨q,hq⟩:∃ q,q=(gz e.subs).filter (zU e.subs):=⟨_,rfl⟩
 have hc:eD e.subs=if q.length=0 then gz e.subs else q:=by rw [eD,hq]
 have hqn:q.length≤1048576:=by rw [hq];exact Nat.le_trans (List.length_filter_le _ _) (by omega)
 refine qE Tryz.func273 Tryz.ntmps273 Tryz.results273 fun E hE=>?_
 refine qK (be e h0 h1 h2 h3 h4 h5 h6) (qI 0 7) ?_
 refine qB (fun g1=>?_) fun g1=>?_
 ·have hr:bk e= -1:=by rw [bk,if_neg (by simp [g1])]
  rw [hr]
  exact qF (qI 0 7)
 refine qK (nM e h2) (qI 0 7) ?_
 refine an 7 hE (fun s (x:Nat×List Nat)=>s.at (qU [0,1,6,29]) [(5,.sc (.int .i64 (x.1:Nat))),(4,.sc (.sl 9 0 x.2.length))] (e.hp false++[some ⟨[e.cs 0],25,45,true,false⟩,some ⟨(gz e.subs).map iK,1,3,true,true⟩,some ⟨x.2.map iK,1,3,true,true⟩])) (fun (x:Nat×List Nat)=>x.1≤(gz e.subs).length∧x.2.length≤x.1∧x.2++((gz e.subs).drop x.1).filter (zU e.subs)=q) (fun (x:Nat×List Nat)=>(gz e.subs).length - x.1) (0,[]) (qI 0 10) (qC) (⟨Nat.zero_le _,Nat.zero_le _,by rw [hq];rfl⟩) (af (by rfl) (by rfl) ?_) fun x hx N hN=>?_
 ·exact qY
 obtain⟨k,acc⟩:=x
 obtain⟨hk1,hk2,hk3⟩:=hx
 dsimp only at hk1 hk2 hk3
 refine qR ?_
 refine qB (fun h=>?_) fun h=>?_
 ·have hlt:=nH h
  rw [iR h] at hk3
  refine qD [0,1,2,3,4,5,6,7,8,9] ?_
  refine qX ?_
  refine qG ?_
  cases h8:e.subs[(gz e.subs)[k]].spare with
  |false=>
   have hp:zU e.subs (gz e.subs)[k]=true:=by rw [zU,ii hlt,h8];rfl
   rw [if_pos hp] at hk3
   try simp (disch:=omega) only [go_sem,seval,h8]
   refine⟨qC,hN _ (k+1,acc++[(gz e.subs)[k]]) (qI 0 9++qI 11 1) (by (try dsimp only);exact⟨by omega,by simp;omega,by simpa using hk3⟩) (by (try dsimp only);omega) (af (by rfl) (by rfl) ?_)⟩
   try simp (disch:=omega) only [go_sem,seval]
   try simp [iK]
  |true=>
   have hp:zU e.subs (gz e.subs)[k]=false:=by rw [zU,ii hlt,h8];rfl
   rw [if_neg (by simp [hp])] at hk3
   try simp (disch:=omega) only [go_sem,seval,h8]
   exact qN hN (k+1,acc) (qI 0 10) (by (try dsimp only);exact⟨by omega,by omega,hk3⟩)
 rw [List.drop_eq_nil_of_le (by omega),List.filter_nil,List.append_nil] at hk3
 subst hk3
 refine qX ?_
 refine qB (fun h8=>?_) fun h8=>?_
 ·rw [if_pos (by omega)] at hc
  refine qX ?_
  refine qB (fun h9=>?_) fun h9=>?_
  ·have hr:bk e= -1:=by rw [bk,if_neg (by rw [hc];omega)]
   rw [hr]
   exact qF (qI 0 7)
  rw [hc] at hcl
  have hl0:0 < (eD e.subs).length:=by rw [hc];omega
  have hpk:=iD g1
  obtain⟨z,hz,hz1,hz2⟩:=rN hpk.1 hl0
  have hn:=md g1 hz1 hz2
  simp only [hc] at hz hz1 hn
  rw [hn]
  try simp (disch:=omega) only [go_sem,seval,hz,ao hz1]
  exact qF (qI 0 7)
 rw [if_neg (by omega)] at hc
 refine qX ?_
 have hl0:0 < (eD e.subs).length:=by rw [hc];omega
 have hpk:=iD g1
 obtain⟨z,hz,hz1,hz2⟩:=rN hpk.1 hl0
 have hn:=md g1 hz1 hz2
 simp only [hc] at hz hz1 hn
 rw [hn]
 try simp (disch:=omega) only [go_sem,seval,hz,ao hz1]
 exact qF (qI 0 7)
theorem tx (n:Int) (hn:I64 n):ae Tryz.prog 322 [.sc (.int .i64 n)] [] (.sc (.int .i64 (iE n))) []:=by
 refine qE Tryz.func322 Tryz.ntmps322 Tryz.results322 fun E hE=>?_
 refine qB (fun h=>?_) fun h=>?_
 ·rw [iE,if_pos h]
  exact qF []
 rw [iE,if_neg h]
 exact qF []
end
section
open Go.RowKit
structure FineO (o:OutD):Prop where
 base:0≤o.base∧o.base≤1000000000
 room:1≤o.room∧o.room≤200
 len:(o.text.length:Int)≤o.room
 sent:o.base≤o.sent∧o.sent≤o.base+(o.text.length:Int)
theorem fq {o:OutD} (h:fb o=true):FineO o:=by
 simp only [fb,iQ,cr,Bool.and_eq_true,decide_eq_true_eq] at h
 obtain⟨⟨⟨h1,h2⟩,h3⟩,h4,h5⟩:=h
 rw [AO (by omega)] at h5
 exact⟨h1,h2,h3,h4,h5⟩
def jM (o:OutD) (t:List UInt8):Nat:=min t.length (o.room - (o.text.length:Int)).toNat
def i2 (o:OutD) (t:List UInt8):Bool:=fb o && decide (o.base+(o.text.length:Int)+(jM o t:Int)≤1000000000)
def fr (o:OutD) (t:List UInt8):OutD×Nat:=if i2 o t then ({ o with text:=o.text++t.take (jM o t) },jM o t) else (o,0)
theorem xV {o:OutD} {t:List UInt8} (h:i2 o t=true):fr o t=({ o with text:=o.text++t.take (jM o t) },jM o t):=if_pos h
theorem xW {o:OutD} {t:List UInt8} (h:i2 o t=false):fr o t=(o,0):=if_neg (by simp [h])
def cp (e:EndD) (t:List UInt8):EndD×Nat:=if aj e then ({ e with out:=(fr e.out t).1 },(fr e.out t).2) else (e,0)
theorem z5 {e:EndD} {t:List UInt8} (h:aj e=true):cp e t=({ e with out:=(fr e.out t).1 },(fr e.out t).2):=if_pos h
theorem z6 {e:EndD} {t:List UInt8} (h:aj e=false):cp e t=(e,0):=if_neg (by simp [h])
theorem wc (o:OutD) (t:List UInt8):jM o t≤t.length:=Nat.min_le_left _ _
theorem A6 (o:OutD) (t:List UInt8):(fr o t).2≤t.length:=by
 rw [fr];split
 ·exact wc o t
 exact Nat.zero_le _
theorem ne (e:EndD) (t:List UInt8):(cp e t).2≤t.length:=by
 rw [cp];split
 ·exact A6 _ _
 exact Nat.zero_le _
def xX (p:PiecesD) (many:Int):Nat:=min many.toNat p.ready.length
def pg (p:PiecesD) (many:Int):Bool:=aG p && decide (0≤many) && decide (p.read+(xX p many:Int)≤1000000000)
def cz (p:PiecesD) (many:Int):PiecesD×List UInt8:=if pg p many then (⟨p.read+(xX p many:Int),p.ready.drop (xX p many),p.list⟩,p.ready.take (xX p many)) else (p,[])
theorem YN {p:PiecesD} {m:Int} (h:pg p m=true):cz p m=(⟨p.read+(xX p m:Int),p.ready.drop (xX p m),p.list⟩,p.ready.take (xX p m)):=if_pos h
theorem YO {p:PiecesD} {m:Int} (h:pg p m=false):cz p m=(p,[]):=if_neg (by simp [h])
def bu (e:EndD) (many:Int):EndD×List UInt8:=if aj e then ({ e with inp:=(cz e.inp many).1 },(cz e.inp many).2) else (e,[])
theorem z7 {e:EndD} {m:Int} (h:aj e=true):bu e m=({ e with inp:=(cz e.inp m).1 },(cz e.inp m).2):=if_pos h
theorem z8 {e:EndD} {m:Int} (h:aj e=false):bu e m=(e,[]):=if_neg (by simp [h])
def f7 (o:OutD):Bool:=fb o && !decide (o.sent=o.base+(o.text.length:Int))
def cB (o:OutD):List UInt8:=(o.text.drop (o.sent - o.base).toNat).take 20
def cX (o:OutD):PieceD×Bool:=if f7 o then (⟨o.sent,cB o⟩,true) else (⟨0,[]⟩,false)
theorem A7 {o:OutD} (h:f7 o=true):cX o=(⟨o.sent,cB o⟩,true):=if_pos h
theorem Np {o:OutD} (h:f7 o=false):cX o=(⟨0,[]⟩,false):=if_neg (by simp [h])
def wd (o:OutD):OutD:=if f7 o then { o with sent:=o.sent+((cB o).length:Int) } else o
theorem ZJ {o:OutD} (h:f7 o=true):wd o={ o with sent:=o.sent+((cB o).length:Int) }:=if_pos h
def kD (e:EndD):Bool:=f7 e.out && decide (0≤bk e)
def z9 (s:SubD) (o:OutD):LetterD:=bc s.road { aw with kind:=11,sgn:=s.give,pos:=o.sent,text:=cB o }
def eX (e:EndD):EndD×List LetterD:=
 if kD e then ({ e with out:=wd e.out,pick:=iE e.pick },[z9 (bq e.subs (bk e).toNat) e.out]) else (e,[])
theorem EU {e:EndD} (h:kD e=false):eX e=(e,[]):=if_neg (by simp [h])
theorem EV {e:EndD} {n:Nat} (h:kD e=true) (hk:bk e=(n:Int)) (hn:n < e.subs.length):
  eX e=({ e with out:={ e.out with sent:=e.out.sent+((cB e.out).length:Int) },pick:=iE e.pick },[z9 e.subs[n] e.out]):=by
 have h1:f7 e.out=true:=by simp only [kD,Bool.and_eq_true] at h;exact h.1
 rw [eX,if_pos h,ZJ h1,hk,Int.toNat_natCast,bR hn]
def dU:Nat→EndD→EndD×List LetterD
 |0,e=>(e,[])
 |k+1,e=>((dU k (eX e).1).1,(eX e).2++(dU k (eX e).1).2)
def aS (e:EndD) (t:List UInt8):EndD×List LetterD:=dU 3 (cp e t).1
def we (e:EndD) (k:Int):Bool:=aj e && cr k 0 ((e.subs.length:Int) - 1) && decide ((bq e.subs k.toNat).state=3)
def br (e:EndD) (k:Int):EndD×List LetterD:=
 if we e k then ({ e with subs:=cS e.subs k.toNat 4 },[bc (bq e.subs k.toNat).road { aw with kind:=13,sgn:=(bq e.subs k.toNat).give }]) else (e,[])
def EW (e:EndD) (a:AddrD):Bool:=aj e && decide (bv e.own a.id < 0) && !lY e.done a.id
def aB (e:EndD) (a:AddrD):EndD×Bool:=
 if EW e a then ({ e with own:=(bn e.own { a with told:=false }).1 },(bn e.own { a with told:=false }).2) else (e,false)
def uB (e:EndD) (s:SubD) (a:AddrD):LetterD:=bc s.road { aw with kind:=8,tag:=⟨3,e.key,e.peer,a.id,a.addr⟩,sgn:=s.give,id:=a.id,addr:=a.addr,spare:=a.spare }
def EY (e:EndD):Bool:=aj e && decide (e.state=2) && !decide ((gz e.subs).length=0)
def cI (e:EndD):List LetterD:=if EY e then (e.own.filter fun a=> !a.told).map (uB e (bq e.subs ((gz e.subs).headD 0))) else []
def eZ (a:Int) (s:SubD):SubD:=if s.road.own=a then { s with state:=4 } else s
def uC (id:Int) (s:SubD):LetterD:=bc s.road { aw with kind:=10,sgn:=s.give,id:=id }
def A8 (e:EndD) (n:Int):Bool:=aj e && decide (e.state=2) && decide (0≤bv e.own n)
def gO (e:EndD) (n:Int):List SubD:=e.subs.map (eZ (oO e.own (bv e.own n).toNat).addr)
def bb (e:EndD) (n:Int):EndD×List LetterD:=
 if A8 e n then ({ e with own:=(bz e.own n).1,done:=iL e.done n,subs:=gO e n },(gz (gO e n)).map fun k=>uC n (bq (gO e n) k)) else (e,[])
def c8 (b:BucketD):BucketD:=if cP b then { b with cur:=min b.burst (b.cur+b.rate) } else b
def bM (l:List HalfD) (now:Int):List HalfD:=l.filter fun h=>decide (now < h.till)
def fu (o:OutD):OutD:=if fb o then { o with sent:=o.base } else o
def Fl (e:EndD):Bool:=aj e && decide (e.now < 1000000000) && e.subs.all fun s=>decide (s.tries < 1000000000)
def fv (e:EndD) (s:SubD):LetterD:=bc s.road { aw with kind:=4,token:=dB (3 - e.side),nonce:=s.mine,give:=s.take,spare:=s.spare }
def da (s:SubD):SubD:=if s.state=1∨s.state=2 then (if s.state=2∧9≤s.tries+1 then { s with tries:=s.tries+1,state:=4 } else { s with tries:=s.tries+1 }) else s
def eP (e:EndD) (s:SubD):List LetterD:=
 if s.state=1∨s.state=2 then (if s.state=2∧9≤s.tries+1 then [] else if (s.tries+1).tmod 3≠0 then [] else if s.state=1 then [fv e s] else [cx e s]) else []
def oU (e:EndD):EndD:={ e with now:=e.now+1,bucket:=c8 e.bucket,halfs:=bM e.halfs (e.now+1),out:=fu e.out }
def ea (e:EndD) (l:List LetterD):EndD×List LetterD:=((dU 3 e).1,l++cI e++(dU 3 e).2)
def dt (e:EndD):EndD×List LetterD:=
 if Fl e then (if e.state=2 then ea { oU e with subs:=e.subs.map da } (e.subs.flatMap (eP e)) else ea (oU e) []) else (e,[])
def eq (l:List SubD):List RoadD:=(l.filter fun s=>s.state != 4).map SubD.road
def gv (l:List AddrD) (n:Int):Bool:=l.any fun a=>a.addr == n
def bS (l:List AddrD) (n:Int):Bool:=l.foldl (fun b a=>if a.addr=n then a.spare else b) false
def A9 (e:EndD) (r:RoadD):Bool:=
 aj e && decide (e.state=2) && mG r && decide (bO e.subs r < 0) && gH e.own r.own && gv e.far r.far && decide (e.subs.length < 8) && cr e.draw 1 999999996
def fw (e:EndD) (r:RoadD) (spare:Bool):SubD:=⟨r,1,spare,e.draw,0,0,e.draw+2,0⟩
def gw (e:EndD) (r:RoadD) (spare:Bool):EndD×List LetterD:=
 if A9 e r then ({ e with subs:=e.subs++[fw e r spare],draw:=e.draw+4 },[fv e (fw e r spare)]) else (e,[])
def gY (far:List AddrD):EndD→List RoadD→EndD×List LetterD
 |e,[]=>(e,[])
 |e,r::l=>((gY far (gw e r (bS far r.far)).1 l).1,(gw e r (bS far r.far)).2++(gY far (gw e r (bS far r.far)).1 l).2)
def bs (e:EndD):EndD×List LetterD:=
 if aj e=true∧e.side=1 then gY e.far e (d8 (wanted e.policy e.own e.far) (eq e.subs)) else (e,[])
end
section
open Go.RowKit
theorem im {α:Type} {l:List α} {p:α→Bool} {k:Nat} (h:k < l.length):(l.drop k).filter p=if p l[k] then l[k]::(l.drop (k+1)).filter p else (l.drop (k+1)).filter p:=by
 rw [List.drop_eq_getElem_cons h,List.filter_cons]
theorem jn {α:Type} {l:List α} {p:α→Bool} {k:Nat} (h:l.length≤k):(l.drop k).filter p=[]:=by
 rw [List.drop_eq_nil_of_le h];rfl
theorem lR {b:BucketD} (h:cP b=true):0≤b.rate∧b.rate≤100∧1≤b.burst∧b.burst≤100∧0≤b.cur∧b.cur≤b.burst:=by
 simp only [cP,cr,Bool.and_eq_true,decide_eq_true_eq] at h
 omega
theorem x1 {b:BucketD} (h:cP b=true):c8 b={ b with cur:=min b.burst (b.cur+b.rate) }:=if_pos h
theorem x2 {b:BucketD} (h:cP b=false):c8 b=b:=if_neg (by simp [h])
theorem x3 (b:BucketD):ae Tryz.prog 230 [.ag b.cs,.sc (.int .i64 1)] [] (.ag (c8 b).cs) []:=by
 have hK:=i_ b
 have hN:=cu [1] (by simp)
 have hf:=x2 (b:=b)
 have ht:=x1 (b:=b)
 generalize c8 b=R at*
 refine qE Tryz.func230 Tryz.ntmps230 Tryz.results230 fun E hE=>?_
 refine qK (hK) [] ?_
 refine qB (fun b1=>?_) fun b1=>?_
 ·have F:=lR b1
  rw [show ([1]:List Int).all iQ=true from rfl] at hN
  refine qK (hN) (qI 2 1) ?_
  rw [ht b1]
  by_cases hm:b.cur+b.rate < b.burst
  ·rw [show min b.burst (b.cur+b.rate)=b.cur+b.rate by omega]
   try simp (disch:=omega) only [go_sem,seval,Int.mul_one,hm]
   refine ah [] (qC) _ (by simp only [go_sem];rfl) (by rfl) (by rfl) ?_
   simp (disch:=omega) only [go_sem,seval]
   try simp [hm]
  rw [show min b.burst (b.cur+b.rate)=b.burst by omega]
  try simp (disch:=omega) only [go_sem,seval,Int.mul_one,hm]
  refine ah [] (qC) _ (by simp only [go_sem];rfl) (by rfl) (by rfl) ?_
  simp (disch:=omega) only [go_sem,seval]
  try simp [hm]
 rw [hf b1]
 refine qX ?_
 exact qF []
theorem x4 (b:BucketD):ae Tryz.prog 203 [.ag b.cs,.sc (.int .i64 1)] [] (.ag (c8 b).cs) []:=by
 have hK:=ja b
 have hN:=aM 1 0 1000000000
 have hf:=x2 (b:=b)
 have ht:=x1 (b:=b)
 generalize c8 b=R at*
 refine qE Tryz.func203 Tryz.ntmps203 Tryz.results203 fun E hE=>?_
 refine qK (hK) [] ?_
 refine qB (fun b1=>?_) fun b1=>?_
 ·have F:=lR b1
  rw [show cr 1 0 1000000000=true from rfl] at hN
  refine qK (hN) [] ?_
  rw [ht b1]
  have hB:ae Tryz.prog 276 [.sc (.int .i64 (b.cur+b.rate)),.sc (.int .i64 0),.sc (.int .i64 b.burst)] [] (.sc (.int .i64 (min b.burst (b.cur+b.rate)))) []:=by
   refine qE Tryz.func276 Tryz.ntmps276 Tryz.results276 fun E hE=>?_
   refine qB (fun c1=>?_) fun c1=>?_
   ·rw [show min b.burst (b.cur+b.rate)=b.burst by omega]
    refine qX ?_
    exact qF []
   rw [show min b.burst (b.cur+b.rate)=b.cur+b.rate by omega]
   refine qX ?_
   exact qF []
  try simp (disch:=omega) only [go_sem,seval,Int.mul_one]
  refine qK (hB) [] ?_
  exact qF []
 rw [hf b1]
 refine qX ?_
 exact qF []
theorem wi (l:List HalfD) (now:Int) (hl:l.length≤1048576):ae Tryz.prog 231 [.sc (.sl 0 0 l.length),.sc (.int .i64 now)] [some ⟨l.map HalfD.cs,8,213,false,true⟩] (.sc (.sl 1 0 (bM l now).length)) [some ⟨l.map HalfD.cs,8,213,false,true⟩,some ⟨(bM l now).map HalfD.cs,8,213,true,true⟩]:=by
 obtain⟨R,hR⟩:∃ R,R=bM l now:=⟨_,rfl⟩
 rw [←hR]
 rw [bM] at hR
 refine qE Tryz.func231 Tryz.ntmps231 Tryz.results231 fun E hE=>?_
 refine an 1 hE (fun s (x:Nat×List HalfD)=>s.at (qU [0,1,7,1,11,12]) [(10,.sc (.int .i64 (x.1:Nat))),(5,.sc (.sl 1 0 x.2.length))] (s.hp++[some ⟨x.2.map HalfD.cs,8,213,true,true⟩])) (fun (x:Nat×List HalfD)=>x.1≤l.length∧x.2.length≤x.1∧R=x.2++(l.drop x.1).filter (fun h=>decide (now < h.till))) (fun (x:Nat×List HalfD)=>l.length - x.1) (0,[]) (qI 0 1++qO 1) (qC) (⟨Nat.zero_le _,Nat.zero_le _,hR⟩) (af (by rfl) (by rfl) ?_) fun x hx N hN=>?_
 ·exact qY
 obtain⟨k,acc⟩:=x
 obtain⟨h1,h2,h3⟩:=hx
 dsimp only at h1 h2 h3
 refine qR ?_
 refine qB (fun h=>?_) fun h=>?_
 ·rw [im h] at h3
  have hg:=ao (enc:=HalfD.cs) h
  try simp (disch:=omega) only [go_sem,seval,hg]
  refine qB (fun b2=>?_) fun b2=>?_
  ·rw [if_pos (by simpa using b2)] at h3
   refine⟨qC,hN _ (k+1,acc++[l[k]]) (qI 0 1++qI 4 1) (by (try dsimp only);exact⟨by omega,by simp;omega,by simpa using h3⟩) (by (try dsimp only);omega) (af (by rfl) (by rfl) ?_)⟩
   refine qX ?_
   simp [HalfD.cs]
  rw [if_neg (by simpa using b2)] at h3
  exact qN hN (k+1,acc) (qI 0 2) (by (try dsimp only);exact⟨by omega,by omega,h3⟩)
 rw [jn (by omega),List.append_nil] at h3
 subst h3
 exact qF (qI 0 2)
theorem wj (l:List HalfD) (now:Int) (hl:l.length≤1048576):ae Tryz.prog 204 [.sc (.sl 0 0 l.length),.sc (.int .i64 now)] [some ⟨l.map HalfD.cs,8,213,false,true⟩] (.sc (.sl 1 0 (bM l now).length)) [some ⟨l.map HalfD.cs,8,213,false,true⟩,some ⟨(bM l now).map HalfD.cs,8,213,true,true⟩]:=by
 obtain⟨R,hR⟩:∃ R,R=bM l now:=⟨_,rfl⟩
 rw [←hR]
 rw [bM] at hR
 refine qE Tryz.func204 Tryz.ntmps204 Tryz.results204 fun E hE=>?_
 refine an 1 hE (fun s (x:Nat×List HalfD)=>s.at (qU [7,21]) [(6,.sc (.int .i64 (x.1:Nat))),(5,.sc (.sl 1 0 x.2.length))] ((s.hp.take 1)++[some ⟨x.2.map HalfD.cs,8,213,true,true⟩])) (fun (x:Nat×List HalfD)=>x.1≤l.length∧x.2.length≤x.1∧R=x.2++(l.drop x.1).filter (fun h=>decide (now < h.till))) (fun (x:Nat×List HalfD)=>l.length - x.1) (0,[]) (qI 0 2) (qC) (⟨Nat.zero_le _,Nat.zero_le _,hR⟩) (af (by rfl) (by rfl) ?_) fun x hx N hN=>?_
 ·exact qY
 obtain⟨k,acc⟩:=x
 obtain⟨h1,h2,h3⟩:=hx
 dsimp only at h1 h2 h3
 refine qR ?_
 refine qB (fun h=>?_) fun h=>?_
 ·rw [im h] at h3
  have hg:=ao (enc:=HalfD.cs) h
  try simp (disch:=omega) only [go_sem,seval,hg]
  refine qB (fun b2=>?_) fun b2=>?_
  ·rw [if_pos (by simpa using b2)] at h3
   try simp (disch:=omega) only [go_sem,seval,hg]
   refine⟨qC,hN _ (k+1,acc++[l[k]]) (qI 0 1++qI 3 1) (by (try dsimp only);exact⟨by omega,by simp;omega,by simpa using h3⟩) (by (try dsimp only);omega) (af (by rfl) (by rfl) ?_)⟩
   refine qX ?_
   simp [HalfD.cs]
  rw [if_neg (by simpa using b2)] at h3
  exact qN hN (k+1,acc) (qI 0 2) (by (try dsimp only);exact⟨by omega,by omega,h3⟩)
 rw [jn (by omega),List.append_nil] at h3
 subst h3
 exact qF (qI 0 2)
theorem j4 (e:EndD) (s:SubD) (h:cr e.side 1 2=true):ae Tryz.prog 234 [.ag (e.cs 0),.ag s.cs] (e.hp false) (.ag (fv e s).cs) (e.hp false):=by
 have hT:=lC (3 - e.side)
 have hB:ae Tryz.prog 246 [.ag s.road.cs,.ag (LetterD.cs { aw with kind:=4,token:=dB (3 - e.side),nonce:=s.mine,give:=s.take,spare:=s.spare })] [] (.ag (fv e s).cs) []:=bg s.road { aw with kind:=4,token:=dB (3 - e.side),nonce:=s.mine,give:=s.take,spare:=s.spare }
 simp only [cr,Bool.and_eq_true,decide_eq_true_eq] at h
 refine qE Tryz.func234 Tryz.ntmps234 Tryz.results234 fun E hE=>?_
 refine qD [0,1,2,3,4,6,7,8,9,10,11,5,12,13,14] ?_
 refine az (hT) [] ?_
 refine az (hB) [] ?_
 refine qG ?_
 refine ah (qI 0 7) (qC) _ (by simp only [go_sem];rfl) (by rfl) (by rfl) ?_
 simp (disch:=omega) only [go_sem,seval]
 try rfl
theorem ng (e:EndD) (s:SubD) (h:cr e.side 1 2=true):ae Tryz.prog 206 [.ag (e.cs 0),.ag s.cs] (e.hp false) (.ag (fv e s).cs) (e.hp false):=by
 have hT:=lD (3 - e.side)
 have hB:ae Tryz.prog 217 [.ag s.road.cs,.ag (LetterD.cs { aw with kind:=4,token:=dB (3 - e.side),nonce:=s.mine,give:=s.take,spare:=s.spare })] [] (.ag (fv e s).cs) []:=aX s.road { aw with kind:=4,token:=dB (3 - e.side),nonce:=s.mine,give:=s.take,spare:=s.spare }
 simp only [cr,Bool.and_eq_true,decide_eq_true_eq] at h
 refine qE Tryz.func206 Tryz.ntmps206 Tryz.results206 fun E hE=>?_
 refine qD [0,1,2,3,4,6,7,8,9,10,11,5,12,13,14] ?_
 refine az (hT) [] ?_
 refine az (hB) [] ?_
 refine qG ?_
 refine ah (qI 0 7) (qC) _ (by simp only [go_sem];rfl) (by rfl) (by rfl) ?_
 simp (disch:=omega) only [go_sem,seval]
 try rfl
theorem x5 (e:EndD) (hl:e.subs.length≤1048576):ae Tryz.prog 238 [.ag (e.cs 0)] (e.hp false) (.sc (.sl 7 0 (eq e.subs).length)) (e.hp false++[some ⟨(eq e.subs).map RoadD.cs,3,199,true,true⟩]):=by
 obtain⟨R,hR⟩:∃ R,R=eq e.subs:=⟨_,rfl⟩
 rw [←hR]
 rw [eq] at hR
 refine qE Tryz.func238 Tryz.ntmps238 Tryz.results238 fun E hE=>?_
 refine an 7 hE (fun s (x:Nat×List RoadD)=>s.at (qU [0,2,5,2,10,12]) [(9,.sc (.int .i64 (x.1:Nat))),(3,.sc (.sl 8 0 x.2.length))] ((s.hp.take 8)++[some ⟨x.2.map RoadD.cs,3,199,true,true⟩])) (fun (x:Nat×List RoadD)=>x.1≤e.subs.length∧x.2.length≤x.1∧R=x.2++((e.subs.drop x.1).filter (fun s=>s.state != 4)).map SubD.road) (fun (x:Nat×List RoadD)=>e.subs.length - x.1) (0,[]) (qI 0 8++qO 1) (qC) (⟨Nat.zero_le _,Nat.zero_le _,hR⟩) (af (by rfl) (by rfl) ?_) fun x hx N hN=>?_
 ·exact qY
 obtain⟨k,acc⟩:=x
 obtain⟨h1,h2,h3⟩:=hx
 dsimp only at h1 h2 h3
 refine qR ?_
 refine qB (fun h=>?_) fun h=>?_
 ·rw [im h] at h3
  have hg:=ao (enc:=SubD.cs) h
  try simp (disch:=omega) only [go_sem,seval,hg]
  refine qB (fun b2=>?_) fun b2=>?_
  ·rw [if_pos (by simpa using b2),List.map_cons] at h3
   try simp (disch:=omega) only [go_sem,seval,hg]
   refine⟨qC,hN _ (k+1,acc++[e.subs[k].road]) (qI 0 8++qI 11 1) (by (try dsimp only);exact⟨by omega,by simp;omega,by simpa using h3⟩) (by (try dsimp only);omega) (af (by rfl) (by rfl) ?_)⟩
   refine qX ?_
   simp [RoadD.cs]
  rw [if_neg (by simpa using b2)] at h3
  exact qN hN (k+1,acc) (qI 0 9) (by (try dsimp only);exact⟨by omega,by omega,h3⟩)
 rw [jn (by omega),List.map_nil,List.append_nil] at h3
 subst h3
 exact qF (qI 0 7++qI 8 1)
theorem x6 (e:EndD) (hl:e.subs.length≤1048576):ae Tryz.prog 211 [.ag (e.cs 0)] (e.hp false) (.sc (.sl 7 0 (eq e.subs).length)) (e.hp false++[some ⟨(eq e.subs).map RoadD.cs,3,199,true,true⟩]):=by
 obtain⟨R,hR⟩:∃ R,R=eq e.subs:=⟨_,rfl⟩
 rw [←hR]
 rw [eq] at hR
 refine qE Tryz.func211 Tryz.ntmps211 Tryz.results211 fun E hE=>?_
 refine an 7 hE (fun s (x:Nat×List RoadD)=>s.at (qU [0,1,5,24]) [(4,.sc (.int .i64 (x.1:Nat))),(3,.sc (.sl 8 0 x.2.length))] ((s.hp.take 8)++[some ⟨x.2.map RoadD.cs,3,199,true,true⟩])) (fun (x:Nat×List RoadD)=>x.1≤e.subs.length∧x.2.length≤x.1∧R=x.2++((e.subs.drop x.1).filter (fun s=>s.state != 4)).map SubD.road) (fun (x:Nat×List RoadD)=>e.subs.length - x.1) (0,[]) (qI 0 9) (qC) (⟨Nat.zero_le _,Nat.zero_le _,hR⟩) (af (by rfl) (by rfl) ?_) fun x hx N hN=>?_
 ·exact qY
 obtain⟨k,acc⟩:=x
 obtain⟨h1,h2,h3⟩:=hx
 dsimp only at h1 h2 h3
 refine qR ?_
 refine qB (fun h=>?_) fun h=>?_
 ·rw [im h] at h3
  have hg:=ao (enc:=SubD.cs) h
  try simp (disch:=omega) only [go_sem,seval,hg]
  refine qB (fun b2=>?_) fun b2=>?_
  ·rw [if_pos (by simpa using b2),List.map_cons] at h3
   try simp (disch:=omega) only [go_sem,seval,hg]
   refine⟨qC,hN _ (k+1,acc++[e.subs[k].road]) (qI 0 8++qI 10 1) (by (try dsimp only);exact⟨by omega,by simp;omega,by simpa using h3⟩) (by (try dsimp only);omega) (af (by rfl) (by rfl) ?_)⟩
   refine qX ?_
   simp [RoadD.cs]
  rw [if_neg (by simpa using b2)] at h3
  exact qN hN (k+1,acc) (qI 0 9) (by (try dsimp only);exact⟨by omega,by omega,h3⟩)
 rw [jn (by omega),List.map_nil,List.append_nil] at h3
 subst h3
 exact qF (qI 0 7++qI 8 1)
end
section
open Go.RowKit
def kH (l:List AddrD) (n:Int):Nat→Int
 |0=> -1
 |k+1=>if (oO l k).addr=n then (k:Int) else kH l n k
theorem x7 {l:List AddrD} {n:Int} {k:Nat} (h:k < l.length):gv (l.take (k+1)) n=(gv (l.take k) n || l[k].addr == n):=by
 rw [gv,List.take_succ_eq_append_getElem h,List.any_append];simp [gv]
theorem nh {l:List AddrD} {n:Int} {k:Nat} (h:k < l.length):bS (l.take (k+1)) n=if l[k].addr=n then l[k].spare else bS (l.take k) n:=by
 rw [bS,List.take_succ_eq_append_getElem h,List.foldl_append];rfl
theorem ni {l:List AddrD} {n:Int}:∀ (k:Nat),k≤l.length→(kH l n k= -1∧gv (l.take k) n=false∧bS (l.take k) n=false)∨∃ j:Nat,∃ hj:j < l.length,j < k∧kH l n k=(j:Int)∧gv (l.take k) n=true∧bS (l.take k) n=l[j].spare
 |0,_=>.inl ⟨rfl,by simp [gv],by simp [bS]⟩
 |k+1,h=>by
  have hk:k < l.length:=by omega
  rw [x7 hk,nh hk,kH,iz hk]
  by_cases he:l[k].addr=n
  ·right
   exact⟨k,hk,Nat.lt_succ_self k,by rw [if_pos he],by rw [Bool.or_eq_true];exact .inr (by simpa using he),by rw [if_pos he]⟩
  rw [if_neg he,if_neg he]
  have hb:(l[k].addr == n)=false:=by simpa using he
  rw [hb,Bool.or_false]
  rcases ni (l:=l) (n:=n) k (by omega) with h1|⟨j,hj,h2,h3⟩
  ·exact .inl h1
  exact .inr ⟨j,hj,Nat.lt_succ_of_lt h2,h3⟩
def x8 (l:List AddrD) (n:Int):Int:=kH l n l.length
theorem kI (l:List AddrD) (n:Int):(x8 l n= -1∧gv l n=false∧bS l n=false)∨∃ j:Nat,∃ hj:j < l.length,x8 l n=(j:Int)∧gv l n=true∧bS l n=l[j].spare:=by
 have:=ni (l:=l) (n:=n) l.length (Nat.le_refl _)
 rw [List.take_length] at this
 rcases this with h|⟨j,hj,_,h⟩
 ·exact .inl h
 exact .inr ⟨j,hj,h⟩
theorem rR (e:EndD) (n:Int) (hl:e.far.length≤1048576):ae Tryz.prog 239 [.ag (e.cs 0),.sc (.int .i64 n)] (e.hp false) (.sc (.int .i64 (x8 e.far n))) (e.hp false):=by
 obtain⟨R,hR⟩:∃ R,R=x8 e.far n:=⟨_,rfl⟩
 rw [←hR]
 rw [x8] at hR
 refine e_ Tryz.func239 (by kernel_rfl) rfl fun E hE=>ac 400 ?_
 simp (disch:=omega) only [Tryz.ntmps239,Tryz.results239,go_sem,Nat.reduceEqDiff,Nat.reduceAdd,Nat.reduceSub,Int.reduceAdd,Int.reduceSub,Int.reduceToNat]
 refine an 7 hE (fun s (k:Nat)=>s.at (qU [0,1,4,1,6,17]) [(5,.sc (.int .i64 ((k:Int) - 1)))] (s.hp)) (fun (k:Nat)=>k≤e.far.length∧R=kH e.far n k) (fun (k:Nat)=>k) e.far.length (qI 0 8) (qC) (⟨Nat.le_refl _,hR⟩) (af (by rfl) (by rfl) ?_) fun k hk N hN=>?_
 ·try simp (disch:=omega) only [go_sem,Nat.reduceEqDiff,Nat.reduceAdd,Nat.reduceSub,Int.reduceAdd,Int.reduceSub,Int.reduceToNat]
 obtain⟨h1,h2⟩:=hk
 refine ac 400 ?_
 cases k with
 |zero=>
  rw [kH] at h2
  subst h2
  try simp (disch:=omega) only [go_sem,Nat.reduceEqDiff,Nat.reduceAdd,Nat.reduceSub,Int.reduceAdd,Int.reduceSub,Int.reduceToNat]
  refine ah (qI 0 7) (qC) _ (by simp only [go_sem];rfl) (by rfl) (by rfl) ?_
  simp (disch:=omega) only [go_sem,Nat.reduceEqDiff,Nat.reduceAdd,Nat.reduceSub,Int.reduceAdd,Int.reduceSub,Int.reduceToNat]
 |succ j=>
  have hj:j < e.far.length:=by omega
  have hg:=ao (enc:=AddrD.cs) hj
  have e1:((j+1:Nat):Int) - 1=(j:Int):=by omega
  have e2:(j:Int)+1 - 1=(j:Int):=by omega
  rw [kH,iz hj] at h2
  try simp (disch:=omega) only [go_sem,Nat.reduceEqDiff,Nat.reduceAdd,Nat.reduceSub,Int.reduceAdd,Int.reduceSub,Int.reduceToNat,e1,e2,hg]
  split<;>rename_i b<;>(try simp only [beq_true,beq_false,Bool.not_eq_true',Bool.not_eq_false'] at b)<;>simp (disch:=omega) only [go_sem,Nat.reduceEqDiff,Nat.reduceAdd,Nat.reduceSub,Int.reduceAdd,Int.reduceSub,Int.reduceToNat,b]<;>(try simp only [decide_eq_true_eq,decide_eq_false_iff_not,beq_iff_eq,beq_eq_false_iff_ne,bne_iff_ne,bne_eq_false_iff_eq,ne_eq,Decidable.not_not,Bool.and_eq_true,Bool.and_eq_false_iff,Bool.or_eq_true,Bool.or_eq_false_iff,Int.ofNat_lt,Int.ofNat_le,Bool.not_eq_eq_eq_not,Bool.not_true,Bool.not_false] at b)<;>try simp (disch:=omega) only [go_sem,Nat.reduceEqDiff,Nat.reduceAdd,Nat.reduceSub,Int.reduceAdd,Int.reduceSub,Int.reduceToNat]
  ·rw [if_pos b] at h2
   subst h2
   try simp (disch:=omega) only [go_sem,Nat.reduceEqDiff,Nat.reduceAdd,Nat.reduceSub,Int.reduceAdd,Int.reduceSub,Int.reduceToNat]
   refine ah (qI 0 7) (qC) _ (by simp only [go_sem];rfl) (by rfl) (by rfl) ?_
   simp (disch:=omega) only [go_sem,Nat.reduceEqDiff,Nat.reduceAdd,Nat.reduceSub,Int.reduceAdd,Int.reduceSub,Int.reduceToNat]
  rw [if_neg b] at h2
  refine⟨qC,hN _ j (qI 0 8) (by (try dsimp only);exact⟨by omega,h2⟩) (by (try dsimp only);omega) (af (by rfl) (by rfl) ?_)⟩
  try simp (disch:=omega) only [go_sem,Nat.reduceEqDiff,Nat.reduceAdd,Nat.reduceSub,Int.reduceAdd,Int.reduceSub,Int.reduceToNat]
theorem x9 (e:EndD) (n:Int) (hl:e.far.length≤1048576):ae Tryz.prog 282 [.ag (e.cs 0),.sc (.int .i64 n)] (e.hp false) (.sc (.bo (gv e.far n))) (e.hp false):=by
 obtain⟨R,hR⟩:∃ R,R=gv e.far n:=⟨_,rfl⟩
 rw [←hR]
 rw [gv] at hR
 refine qE Tryz.func282 Tryz.ntmps282 Tryz.results282 fun E hE=>?_
 refine an 7 hE (fun s (k:Nat)=>s.at (qU [0,1,4,1,6,15]) [(5,.sc (.int .i64 (k:Nat)))] (s.hp)) (fun (k:Nat)=>k≤e.far.length∧R=(e.far.drop k).any (fun a=>a.addr == n)) (fun (k:Nat)=>e.far.length - k) 0 (qI 0 8) (qC) (⟨Nat.zero_le _,hR⟩) (af (by rfl) (by rfl) ?_) fun k hk N hN=>?_
 ·exact qY
 obtain⟨h1,h2⟩:=hk
 refine qR ?_
 refine qB (fun h=>?_) fun h=>?_
 ·rw [eB h] at h2
  have hg:=ao (enc:=AddrD.cs) h
  try simp (disch:=omega) only [go_sem,seval,hg]
  refine qB (fun b=>?_) fun b=>?_
  ·rw [show (e.far[k].addr == n)=true by simpa using b,Bool.true_or] at h2
   subst h2
   refine qX ?_
   exact qF (qI 0 7)
  rw [show (e.far[k].addr == n)=false by simpa using b,Bool.false_or] at h2
  exact qN hN (k+1) (qI 0 8) (by (try dsimp only);exact⟨by omega,h2⟩)
 rw [d7 (by omega)] at h2
 subst h2
 refine qX ?_
 exact qF (qI 0 7)
theorem YP {e:EndD} {r:RoadD} {b:Bool} (h:A9 e r=false):gw e r b=(e,[]):=if_neg (by simp [h])
theorem YQ {e:EndD} {r:RoadD} {b:Bool} (h:A9 e r=true):gw e r b=({ e with subs:=e.subs++[fw e r b],draw:=e.draw+4 },[fv e (fw e r b)]):=if_pos h
theorem jO {e:EndD} (h:aj e=true):cr e.side 1 2=true:=by
 simp only [aj,Bool.and_eq_true] at h
 simp_all
theorem Bc (e:EndD) (r:RoadD) (sp:Bool) (hs:Small e):ae Tryz.prog 240 [.ag (e.cs 0),.ag r.cs,.sc (.bo sp)] (e.hp false) (.tu [.ag ((gw e r sp).1.cs 7),.sc (.sl 14 0 (gw e r sp).2.length)])
  (e.hp false++((gw e r sp).1.hp true++[some ⟨(gw e r sp).2.map LetterD.cs,19,91,true,true⟩])):=by
 have hC:=(qH (aK e))
 have hK:=(qH (bf e))
 have hO:=gB e r.own (by have:=hs.own;omega)
 have hS:=eI e r (by have:=hs.subs;omega)
 have hsub:=hs.subs
 have hF:=rR e r.far (by have:=hs.far;omega)
 have hcase:=kI e.far r.far
 have hf:=YP (e:=e) (r:=r) (b:=sp)
 have ht:=YQ (e:=e) (r:=r) (b:=sp)
 have hk:=A9.eq_1 e r
 generalize gw e r sp=R at*
 refine ga Tryz.func240 Tryz.ntmps240 Tryz.results240 fun E hE=>?_
 refine qK (hC) (qI 0 7) ?_
 refine qK (hK) (qI 0 7) ?_
 refine qB (fun h1=>?_) fun h1=>?_
 ·refine qB (fun h2=>?_) fun h2=>?_
  ·refine qK (fW r) [] ?_
   refine qB (fun h3=>?_) fun h3=>?_
   ·refine qK (hS) (qI 0 7) ?_
    refine qB (fun h4=>?_) fun h4=>?_
    ·refine qK (hO) (qI 0 7) ?_
     refine qB (fun h5=>?_) fun h5=>?_
     ·refine qK (hF) (qI 0 7) ?_
      rcases hcase with⟨q1,q2,_⟩|⟨j,hj,q1,q2,_⟩
      ·rw [hf (by rw [hk];simp [q2])]
       try simp (disch:=omega) only [go_sem,seval,q1]
       exact cc (qI 0 7++qI 10 7++qO 1)
      try simp (disch:=omega) only [go_sem,seval,q1]
      refine qB (fun h7=>?_) fun h7=>?_
      ·refine qK (fk e) (qI 0 7) ?_
       refine qB (fun h8=>?_) fun h8=>?_
       ·rw [hf (by rw [hk];simp [h8])]
        refine qX ?_
        exact cc (qI 0 7++qI 10 7++qO 1)
       rw [ht (by rw [hk];simp [h1,h2,h3,h5,h8,q2];omega)]
       have h8':=h8
       simp only [cr,Bool.and_eq_true,decide_eq_true_eq] at h8'
       have hJ:=j4 e (fw e r sp) (jO h1)
       refine qX ?_
       refine qK (f6 e h8) (qI 10 8) ?_
       refine aI [(4,5)] [] [(qU [0,7]),[0,1,2,3,5,4,6]] 7 hE (fun s=>s.at (qU [74,5,68,6]) [(7,.sc (.sl 21 0 1))] ((s.hp.set 9 (some ⟨[[.int .i64 e.side,.int .i64 e.state,.int .i64 e.key,.int .i64 e.peer,.int .i64 e.policy.kind,.int .i64 e.policy.many,.sl 10 0 e.own.length,.sl 11 0 e.far.length,.sl 20 0 (e.subs.length+1),.sl 13 0 e.halfs.length,.int .i64 e.bucket.rate,.int .i64 e.bucket.burst,.int .i64 e.bucket.cur,.st e.out.text,.int .i64 e.out.base,.int .i64 e.out.sent,.int .i64 e.out.room,.int .i64 e.inp.read,.st e.inp.ready,.sl 14 0 e.inp.list.length,.sl 15 0 e.done.length,.sl 16 0 e.over.length,.int .i64 (e.draw+4),.int .i64 e.now,.int .i64 e.pick]],25,45,true,false⟩))++[some ⟨[(fv e (fw e r sp)).cs],19,91,true,true⟩])) (by kernel_rfl) (qC) (by kernel_rfl) ?_ (ac 400 ?_)
       rotate_left
       rotate_right
       simp only [aQ]
       refine⟨aa 400 ?_,aa 400 ?_⟩
       ·simp (disch:=omega) only [go_sem]
        refine az (hJ) (qI 0 7) ?_
        refine⟨qC,(qI 0 22),ab (by rfl) (by rfl) ?_⟩
        try simp (disch:=omega) only [go_sem,seval]
        try rfl
       ·simp (disch:=omega) only [go_sem]
        refine az (hJ) (qI 0 7) ?_
        refine⟨qC,(qI 0 22),ab (by rfl) (by rfl) ?_⟩
        try simp (disch:=omega) only [go_sem,seval]
        try rfl
       refine qX ?_
       refine aA (qI 0 7++qI 10 2++qI 20 1++qI 13 4++qI 21 1) (qC) _ (by simp only [go_sem];rfl) (by rfl) (by rfl) ?_
       simp (disch:=omega) only [go_sem,seval]
       try simp [SubD.cs,fw]
       try omega
      rw [hf (by rw [hk];first|(simp [h7];done)|(simp [h7];intros;omega))]
      refine qX ?_
      exact cc (qI 0 7++qI 10 7++qO 1)
     rw [hf (by rw [hk];first|(simp [h5];done)|(simp [h5];intros;omega))]
     refine qX ?_
     exact cc (qI 0 7++qI 10 7++qO 1)
    rw [hf (by rw [hk];first|(simp [h4];done)|(simp [h4];intros;omega))]
    refine qX ?_
    exact cc (qI 0 7++qI 10 7++qO 1)
   rw [hf (by rw [hk];first|(simp [h3];done)|(simp [h3];intros;omega))]
   refine qX ?_
   exact cc (qI 0 7++qI 10 7++qO 1)
  rw [hf (by rw [hk];first|(simp [h2];done)|(simp [h2];intros;omega))]
  refine qX ?_
  exact cc (qI 0 7++qI 10 7++qO 1)
 rw [hf (by rw [hk];first|(simp [h1];done)|(simp [h1];intros;omega))]
 refine qX ?_
 exact cc (qI 0 7++qI 10 7++qO 1)
theorem Bd (e:EndD) (r:RoadD) (sp:Bool) (hs:Small e):ae Tryz.prog 212 [.ag (e.cs 0),.ag r.cs,.sc (.bo sp)] (e.hp false) (.tu [.ag ((gw e r sp).1.cs 7),.sc (.sl 14 0 (gw e r sp).2.length)])
  (e.hp false++((gw e r sp).1.hp true++[some ⟨(gw e r sp).2.map LetterD.cs,19,91,true,true⟩])):=by
 have hC:=(qH (aD e))
 have hK:=(qH (be e))
 have hO:=gC e r.own (by have:=hs.own;omega)
 have hS:=eJ e r (by have:=hs.subs;omega)
 have hsub:=hs.subs
 have hF:=x9 e r.far (by have:=hs.far;omega)
 have hcase:=kI e.far r.far
 have hf:=YP (e:=e) (r:=r) (b:=sp)
 have ht:=YQ (e:=e) (r:=r) (b:=sp)
 have hk:=A9.eq_1 e r
 generalize gw e r sp=R at*
 refine ga Tryz.func212 Tryz.ntmps212 Tryz.results212 fun E hE=>?_
 refine qK (hC) (qI 0 7) ?_
 refine qK (hK) (qI 0 7) ?_
 refine qB (fun h1=>?_) fun h1=>?_
 ·refine qB (fun h2=>?_) fun h2=>?_
  ·refine qK (g_ r) [] ?_
   refine qB (fun h3=>?_) fun h3=>?_
   ·refine qK (hS) (qI 0 7) ?_
    refine qB (fun h4=>?_) fun h4=>?_
    ·refine qK (hO) (qI 0 7) ?_
     refine qB (fun h5=>?_) fun h5=>?_
     ·refine qK (hF) (qI 0 7) ?_
      refine qB (fun h6=>?_) fun h6=>?_
      ·refine qB (fun h7=>?_) fun h7=>?_
       ·refine qK (gD e) (qI 0 7) ?_
        refine qB (fun h8=>?_) fun h8=>?_
        ·rw [hf (by rw [hk];simp [h8])]
         refine qX ?_
         exact cc (qI 0 7++qI 10 7++qI 18 1)
        rw [ht (by rw [hk];have:=dr h1;simp [h1,h2,h3,h5,h6,h8];omega)]
        have h8':=h8
        simp only [cr,Bool.and_eq_true,decide_eq_true_eq] at h8'
        have hd1:cr e.draw 1 999999998=true:=by simp only [cr,Bool.and_eq_true,decide_eq_true_eq];omega
        have hd2:cr (e.draw+2) 1 999999998=true:=by simp only [cr,Bool.and_eq_true,decide_eq_true_eq];omega
        have hJ:ae Tryz.prog 206 [.ag (EndD.cs { e with draw:=e.draw+2+2,subs:=e.subs++[fw e r sp] } 0),.ag (fw e r sp).cs] (EndD.hp { e with draw:=e.draw+2+2,subs:=e.subs++[fw e r sp] } false) (.ag (fv e (fw e r sp)).cs) (EndD.hp { e with draw:=e.draw+2+2,subs:=e.subs++[fw e r sp] } false):=ng _ _ (show cr e.side 1 2=true from jO h1)
        refine qX ?_
        refine qK (cO e hs hd1) (qI 10 7) ?_
        refine qK (cO { e with draw:=e.draw+2 } ⟨hs.own,hs.far,hs.subs,hs.halfs,hs.list,hs.done,hs.over⟩ hd2) (qI 19 7) ?_
        refine qK (iU { e with draw:=e.draw+2+2 } (fw e r sp) (by have:=dr h1;dsimp only;omega)) (qI 26 7) ?_
        refine aI [(0,6),(4,0),(5,0)] [(4,5),(4,6),(5,6)] [[1,2,3,4,5,0,6,7,8],[1,2,3,4,0,5,6,7,8],[1,2,3,0,4,5,6,7,8],[1,2,3,4,5,6,0,7,8]] 7 hE (fun s=>s.at (qU [9,1,62,25]) [(7,.sc (.sl 35 0 1))] (((s.hp.set 9 (some ⟨[[.int .i64 e.side,.int .i64 e.state,.int .i64 e.key,.int .i64 e.peer,.int .i64 e.policy.kind,.int .i64 e.policy.many,.sl 26 0 e.own.length,.sl 27 0 e.far.length,.sl 34 0 (e.subs.length+1),.sl 29 0 e.halfs.length,.int .i64 e.bucket.rate,.int .i64 e.bucket.burst,.int .i64 e.bucket.cur,.st e.out.text,.int .i64 e.out.base,.int .i64 e.out.sent,.int .i64 e.out.room,.int .i64 e.inp.read,.st e.inp.ready,.sl 30 0 e.inp.list.length,.sl 31 0 e.done.length,.sl 32 0 e.over.length,.int .i64 (e.draw+2+2),.int .i64 e.now,.int .i64 e.pick]],25,45,true,false⟩)).set 18 none)++[some ⟨[(fv e (fw e r sp)).cs],19,91,true,true⟩])) (by kernel_rfl) (qC) (by kernel_rfl) ?_ (ac 400 ?_)
        rotate_left
        rotate_right
        simp only [aQ]
        refine⟨aa 400 ?_,aa 400 ?_,aa 400 ?_,aa 400 ?_⟩
        ·simp (disch:=omega) only [go_sem]
         refine az (hJ) (qI 26 2++qI 34 1++qI 29 4) ?_
         refine⟨qC,(qI 0 35++qI 36 1),ab (by rfl) (by rfl) ?_⟩
         try simp (disch:=omega) only [go_sem,seval]
         try rfl
        ·simp (disch:=omega) only [go_sem]
         refine az (hJ) (qI 26 2++qI 34 1++qI 29 4) ?_
         refine⟨qC,(qI 0 35++qI 36 1),ab (by rfl) (by rfl) ?_⟩
         try simp (disch:=omega) only [go_sem,seval]
         try rfl
        ·simp (disch:=omega) only [go_sem]
         refine az (hJ) (qI 26 2++qI 34 1++qI 29 4) ?_
         refine⟨qC,(qI 0 35++qI 36 1),ab (by rfl) (by rfl) ?_⟩
         try simp (disch:=omega) only [go_sem,seval]
         try rfl
        ·simp (disch:=omega) only [go_sem]
         refine az (hJ) (qI 26 2++qI 34 1++qI 29 4) ?_
         refine⟨qC,(qI 0 35++qI 36 1),ab (by rfl) (by rfl) ?_⟩
         try simp (disch:=omega) only [go_sem,seval]
         try rfl
        refine qX ?_
        refine aA (qI 0 7++qI 26 2++qI 34 1++qI 29 4++qI 35 1) (qC) _ (by simp only [go_sem];rfl) (by rfl) (by rfl) ?_
        simp (disch:=omega) only [go_sem,seval]
        try simp [SubD.cs,fw]
        try omega
       rw [hf (by rw [hk];first|(simp [h7];done)|(simp [h7];intros;omega))]
       refine qX ?_
       exact cc (qI 0 7++qI 10 7++qI 18 1)
      rw [hf (by rw [hk];simp [h6])]
      refine qX ?_
      exact cc (qI 0 7++qI 10 7++qI 18 1)
     rw [hf (by rw [hk];first|(simp [h5];done)|(simp [h5];intros;omega))]
     refine qX ?_
     exact cc (qI 0 7++qI 10 7++qI 18 1)
    rw [hf (by rw [hk];first|(simp [h4];done)|(simp [h4];intros;omega))]
    refine qX ?_
    exact cc (qI 0 7++qI 10 7++qI 18 1)
   rw [hf (by rw [hk];first|(simp [h3];done)|(simp [h3];intros;omega))]
   refine qX ?_
   exact cc (qI 0 7++qI 10 7++qI 18 1)
  rw [hf (by rw [hk];first|(simp [h2];done)|(simp [h2];intros;omega))]
  refine qX ?_
  exact cc (qI 0 7++qI 10 7++qI 18 1)
 rw [hf (by rw [hk];first|(simp [h1];done)|(simp [h1];intros;omega))]
 refine qX ?_
 exact cc (qI 0 7++qI 10 7++qI 18 1)
end
section
open Go.RowKit
def T1 (a b:AddrD):RoadD:=⟨a.addr,b.addr,0⟩
theorem oV {far l:List AddrD} {acc:List RoadD} {k:Nat} (h:k < l.length):iu far acc (l.drop k)=iu far ((acc++far.map (T1 l[k])).take 8) (l.drop (k+1)):=by
 rw [List.drop_eq_getElem_cons h,iu]
 rfl
theorem x_ {acc:List RoadD} {far:List AddrD} {f:AddrD→RoadD} {j:Nat} {r:List RoadD} (h:j < far.length) (hr:r=(acc++(far.take j).map f).take 8) (hl:r.length < 8):r++[f far[j]]=(acc++(far.take (j+1)).map f).take 8:=by
 have h1:(acc++(far.take j).map f).length < 8:=by
  rw [hr,List.length_take] at hl
  omega
 rw [List.take_of_length_le (by omega)] at hr
 rw [List.take_succ_eq_append_getElem h,List.map_append,←List.append_assoc,←hr,List.map_singleton,List.take_of_length_le]
 rw [←hr] at h1
 simp
 omega
theorem ya {acc:List RoadD} {far:List AddrD} {f:AddrD→RoadD} {j i:Nat} {r:List RoadD} (hji:j≤i) (hi:i≤far.length) (hr:r=(acc++(far.take j).map f).take 8) (hl:¬ r.length < 8):r=(acc++(far.take i).map f).take 8:=by
 have h1:8≤(acc++(far.take j).map f).length:=by
  rw [hr,List.length_take] at hl
  omega
 have e:far.take i=far.take j++(far.take i).drop j:=by
  conv=>lhs;rw [←List.take_append_drop j (far.take i)]
  rw [List.take_take,Nat.min_eq_left hji]
 rw [e,List.map_append,←List.append_assoc,List.take_append_of_le_length h1,hr]
theorem mh (o f:Int) (n:Nat):ko o f (n+1)=ko o f n++[⟨o,f,(n:Int)⟩]:=by
 simp [ko,List.range_succ]
theorem gx (o f:Int) (n:Nat):(ko o f n).length=n:=by simp [ko]
theorem rS {far:List AddrD}:∀ {l:List AddrD} {acc:List RoadD},acc.length≤8→(iu far acc l).length≤8
 |[],acc,h=>h
 |a::r,acc,h=>by
  rw [iu]
  exact rS (by rw [List.length_take];omega)
theorem nj {l:List AddrD} (h:0 < l.length):EA l=l[0].addr:=by
 cases l with
 |nil=>simp at h
 |cons a r=>rfl
theorem rT (p:PolicyD) (own far:List AddrD):(wanted p own far).length≤8:=by
 rw [wanted]
 split
 ·rename_i h
  split
  ·exact rS (Nat.zero_le _)
  rw [gx]
  split
  ·rename_i h2
   have h1:=h.1
   rw [gd,if_pos h2] at h1
   simp only [cr,Bool.and_eq_true,decide_eq_true_eq] at h1
   omega
  omega
 simp
theorem tA (p:PolicyD) (own far:List AddrD) (hp:p.wf) (h1:own.length≤1048576) (h2:far.length≤1048576):ae Tryz.prog 237 [.ag p.cs,.sc (.sl 0 0 own.length),.sc (.sl 1 0 far.length)] [some ⟨own.map AddrD.cs,4,88,false,true⟩,some ⟨far.map AddrD.cs,4,88,false,true⟩] (.sc (.sl 2 0 (wanted p own far).length)) [some ⟨own.map AddrD.cs,4,88,false,true⟩,some ⟨far.map AddrD.cs,4,88,false,true⟩,some ⟨(wanted p own far).map RoadD.cs,3,199,true,true⟩]:=by
 obtain⟨m,hm⟩:∃ m,m=wanted p own far:=⟨_,rfl⟩
 rw [←hm]
 rw [wanted] at hm
 refine qE Tryz.func237 Tryz.ntmps237 Tryz.results237 fun E hE=>?_
 refine qK (lw p) [] ?_
 refine qB (fun g1=>?_) fun g1=>?_
 ·refine qK (aO _ _ _) [] ?_
  refine qB (fun g2=>?_) fun g2=>?_
  ·refine qK (aO _ _ _) [] ?_
   refine qB (fun g3=>?_) fun g3=>?_
   ·rw [if_neg (by simp [g3])] at hm
    subst hm
    exact qF (qI 0 2++qO 1)
   have g2':=g2
   have g3':=g3
   simp only [cr,Bool.and_eq_true,decide_eq_true_eq] at g2' g3'
   rw [if_pos ⟨g1,g2,g3⟩] at hm
   refine qX ?_
   refine qB (fun g4=>?_) fun g4=>?_
   ·rw [if_pos g4] at hm
    refine qX ?_
    refine an 2 hE (fun s (x:Nat×List RoadD)=>s.at (qU [0,1,9,1,11,1,13,18,34,22]) [(33,.sc (.int .i64 (x.1:Nat))),(7,.sc (.sl 3 0 x.2.length))] ([some ⟨own.map AddrD.cs,4,88,false,true⟩,some ⟨far.map AddrD.cs,4,88,false,true⟩,some ⟨[p.cs],2,27,true,false⟩,some ⟨x.2.map RoadD.cs,3,199,true,true⟩])) (fun (x:Nat×List RoadD)=>x.1≤own.length∧x.2.length≤8∧iu far x.2 (own.drop x.1)=m) (fun (x:Nat×List RoadD)=>own.length - x.1) (0,[]) (qI 0 3++qO 1) (qC) (⟨Nat.zero_le _,Nat.zero_le _,hm.symm⟩) (af (by rfl) (by rfl) ?_) fun x hx N hN=>?_
    ·exact qY
    obtain⟨k,acc⟩:=x
    obtain⟨hk1,hk2,hk3⟩:=hx
    dsimp only at hk1 hk2 hk3
    refine qR ?_
    refine qB (fun h=>?_) fun h=>?_
    ·rw [oV h] at hk3
     refine qX ?_
     refine an 2 hE (fun s (y:Nat×List RoadD)=>s.at (qU [0,1,11,1,13,18,35,2,40,16]) [(39,.sc (.int .i64 (y.1:Nat))),(7,.sc (.sl 3 0 y.2.length))] ([some ⟨own.map AddrD.cs,4,88,false,true⟩,some ⟨far.map AddrD.cs,4,88,false,true⟩,some ⟨[p.cs],2,27,true,false⟩,some ⟨y.2.map RoadD.cs,3,199,true,true⟩,some ⟨[AddrD.cs own[k]],4,88,true,false⟩])) (fun (y:Nat×List RoadD)=>y.1≤far.length∧y.2.length≤8∧y.2=(acc++(far.take y.1).map (T1 own[k])).take 8) (fun (y:Nat×List RoadD)=>far.length - y.1) (0,acc) (qI 0 5) (qC) (⟨Nat.zero_le _,hk2,by simp;rw [List.take_of_length_le hk2]⟩) (af (by rfl) (by rfl) ?_) fun y hy N2 hN2=>?_
     ·exact qY
     obtain⟨j,r⟩:=y
     obtain⟨hy1,hy2,hy3⟩:=hy
     dsimp only at hy1 hy2 hy3
     refine qR ?_
     refine qB (fun h5=>?_) fun h5=>?_
     ·refine qX ?_
      refine qB (fun h6=>?_) fun h6=>?_
      ·have hl8:r.length < 8:=by omega
       have ht:=x_ h5 hy3 hl8
       refine⟨qC,hN2 _ (j+1,r++[T1 own[k] far[j]]) (qI 0 3++qI 7 1++qI 4 1) (by (try dsimp only);exact⟨by omega,by simp;omega,ht⟩) (by (try dsimp only);omega) (af (by rfl) (by rfl) ?_)⟩
       refine qX ?_
       simp [T1,RoadD.cs]
      have ht:=ya (i:=j+1) (by omega) (by omega) hy3 (by omega)
      exact qN hN2 (j+1,r) (qI 0 5) (by (try dsimp only);exact⟨by omega,hy2,ht⟩)
     have e:j=far.length:=by omega
     subst e
     rw [List.take_length] at hy3
     rw [←hy3] at hk3
     exact qN hN (k+1,r) (qI 0 4) (by (try dsimp only);exact⟨by omega,hy2,hk3⟩)
    rw [List.drop_eq_nil_of_le (by omega),iu] at hk3
    subst hk3
    exact qF (qI 0 2++qI 3 1)
   rw [if_neg g4] at hm
   have ho:0 < own.length:=by omega
   have hf:0 < far.length:=by omega
   rw [nj ho,nj hf] at hm
   obtain⟨c,hc,hc0,hc8⟩:∃ c:Nat,m=ko own[0].addr far[0].addr c∧(if 1 < p.many then p.many else 1)=(c:Int)∧c≤8:=by
    by_cases h2:p.kind=2
    ·have h:=g1
     rw [gd,if_pos h2] at h
     simp only [cr,Bool.and_eq_true,decide_eq_true_eq] at h
     rw [if_pos h2] at hm
     exact⟨p.many.toNat,hm,by split<;>omega,by omega⟩
    rw [if_neg h2] at hm
    have h:=g1
    rw [gd,if_neg h2] at h
    simp only [Bool.and_eq_true,beq_iff_eq] at h
    exact⟨1,hm,by rw [if_neg (by omega)];rfl,by omega⟩
   refine qX ?_
   refine an 2 hE (fun s (x:Nat)=>s.at (qU [0,1,9,1,11,1,13,64]) [(12,.sc (.int .i64 (x:Nat))),(7,.sc (.sl 3 0 x))] ([some ⟨own.map AddrD.cs,4,88,false,true⟩,some ⟨far.map AddrD.cs,4,88,false,true⟩,some ⟨[p.cs],2,27,true,false⟩,some ⟨(ko own[0].addr far[0].addr x).map RoadD.cs,3,199,true,true⟩])) (fun (x:Nat)=>x≤c) (fun (x:Nat)=>c - x) 0 (qI 0 3++qO 1) (qC) (Nat.zero_le _) (af (by rfl) (by rfl) ?_) fun x hx N hN=>?_
   ·try simp (disch:=omega) only [go_sem,seval]
    try rfl
   refine ac 400 ?_
   have hml:=gx own[0].addr far[0].addr x
   try simp (disch:=omega) only [go_sem,seval,hc0]
   refine qB (fun h=>?_) fun h=>?_
   ·refine qD [0,1,2,3,4,5,6,7,8,9,10,11,12,13] ?_
    refine qG ?_
    refine⟨qC,hN _ (x+1) (qI 0 3++qI 5 1) (by (try dsimp only);exact (by omega)) (by (try dsimp only);omega) (af (by rfl) (by rfl) ?_)⟩
    try simp (disch:=omega) only [go_sem,seval]
    try simp [mh,RoadD.cs]
   have e:x=c:=by omega
   subst e
   subst hc
   rw [gx]
   exact qF (qI 0 2++qI 3 1)
  rw [if_neg (by simp [g2])] at hm
  subst hm
  exact qF (qI 0 2++qO 1)
 rw [if_neg (by simp [g1])] at hm
 subst hm
 exact qF (qI 0 2++qO 1)
theorem tB (p:PolicyD) (own far:List AddrD) (hp:p.wf) (h1:own.length≤1048576) (h2:far.length≤1048576):ae Tryz.prog 210 [.ag p.cs,.sc (.sl 0 0 own.length),.sc (.sl 1 0 far.length)] [some ⟨own.map AddrD.cs,4,88,false,true⟩,some ⟨far.map AddrD.cs,4,88,false,true⟩] (.sc (.sl 2 0 (wanted p own far).length)) [some ⟨own.map AddrD.cs,4,88,false,true⟩,some ⟨far.map AddrD.cs,4,88,false,true⟩,some ⟨(wanted p own far).map RoadD.cs,3,199,true,true⟩]:=by
 obtain⟨m,hm⟩:∃ m,m=wanted p own far:=⟨_,rfl⟩
 rw [←hm]
 rw [wanted] at hm
 refine qE Tryz.func210 Tryz.ntmps210 Tryz.results210 fun E hE=>?_
 refine qK (lx p) [] ?_
 refine qB (fun g1=>?_) fun g1=>?_
 ·refine qK (aM _ _ _) [] ?_
  refine qB (fun g2=>?_) fun g2=>?_
  ·refine qK (aM _ _ _) [] ?_
   refine qB (fun g3=>?_) fun g3=>?_
   ·rw [if_neg (by simp [g3])] at hm
    subst hm
    exact qF (qI 0 2++qI 3 1)
   have g2':=g2
   have g3':=g3
   simp only [cr,Bool.and_eq_true,decide_eq_true_eq] at g2' g3'
   rw [if_pos ⟨g1,g2,g3⟩] at hm
   refine qX ?_
   refine qB (fun g4=>?_) fun g4=>?_
   ·rw [if_pos g4] at hm
    refine qX ?_
    refine an 2 hE (fun s (x:Nat×List RoadD)=>s.at (qU [0,1,9,1,12,51]) [(8,.sc (.int .i64 (x.1:Nat))),(7,.sc (.sl 3 0 x.2.length))] ([some ⟨own.map AddrD.cs,4,88,false,true⟩,some ⟨far.map AddrD.cs,4,88,false,true⟩,some ⟨[p.cs],2,27,true,false⟩,some ⟨x.2.map RoadD.cs,3,199,true,true⟩])) (fun (x:Nat×List RoadD)=>x.1≤own.length∧x.2.length≤8∧iu far x.2 (own.drop x.1)=m) (fun (x:Nat×List RoadD)=>own.length - x.1) (0,[]) (qI 0 4) (qC) (⟨Nat.zero_le _,Nat.zero_le _,hm.symm⟩) (af (by rfl) (by rfl) ?_) fun x hx N hN=>?_
    ·exact qY
    obtain⟨k,acc⟩:=x
    obtain⟨hk1,hk2,hk3⟩:=hx
    dsimp only at hk1 hk2 hk3
    refine qR ?_
    refine qB (fun h=>?_) fun h=>?_
    ·rw [oV h] at hk3
     refine qX ?_
     refine an 2 hE (fun s (y:Nat×List RoadD)=>s.at (qU [0,1,12,23,36,27]) [(9,.sc (.int .i64 (y.1:Nat))),(7,.sc (.sl 3 0 y.2.length))] ([some ⟨own.map AddrD.cs,4,88,false,true⟩,some ⟨far.map AddrD.cs,4,88,false,true⟩,some ⟨[p.cs],2,27,true,false⟩,some ⟨y.2.map RoadD.cs,3,199,true,true⟩])) (fun (y:Nat×List RoadD)=>y.1≤far.length∧y.2.length≤8∧y.2=(acc++(far.take y.1).map (T1 own[k])).take 8) (fun (y:Nat×List RoadD)=>far.length - y.1) (0,acc) (qI 0 4) (qC) (⟨Nat.zero_le _,hk2,by simp;rw [List.take_of_length_le hk2]⟩) (af (by rfl) (by rfl) ?_) fun y hy N2 hN2=>?_
     ·exact qY
     obtain⟨j,r⟩:=y
     obtain⟨hy1,hy2,hy3⟩:=hy
     dsimp only at hy1 hy2 hy3
     refine qR ?_
     refine qB (fun h5=>?_) fun h5=>?_
     ·refine qX ?_
      refine qB (fun h6=>?_) fun h6=>?_
      ·have hl8:r.length < 8:=by omega
       have ht:=x_ h5 hy3 hl8
       refine qD [0,1,2,3,4,5,6,7,8,9,10,11,12,13,14] ?_
       refine qG ?_
       refine⟨qC,hN2 _ (j+1,r++[T1 own[k] far[j]]) (qI 0 3++qI 5 1) (by (try dsimp only);exact⟨by omega,by simp;omega,ht⟩) (by (try dsimp only);omega) (af (by rfl) (by rfl) ?_)⟩
       refine qX ?_
       simp [T1,RoadD.cs]
      have ht:=ya (i:=far.length) hy1 (Nat.le_refl _) hy3 (by omega)
      rw [List.take_length] at ht
      rw [←ht] at hk3
      exact qN hN (k+1,r) (qI 0 4) (by (try dsimp only);exact⟨by omega,hy2,hk3⟩)
     have e:j=far.length:=by omega
     subst e
     rw [List.take_length] at hy3
     rw [←hy3] at hk3
     exact qN hN (k+1,r) (qI 0 4) (by (try dsimp only);exact⟨by omega,hy2,hk3⟩)
    rw [List.drop_eq_nil_of_le (by omega),iu] at hk3
    subst hk3
    exact qF (qI 0 2++qI 3 1)
   rw [if_neg g4] at hm
   have ho:0 < own.length:=by omega
   have hf:0 < far.length:=by omega
   rw [nj ho,nj hf] at hm
   obtain⟨c,hc,hc0,hc8⟩:∃ c:Nat,m=ko own[0].addr far[0].addr c∧(if p.kind=2 then p.many else 1)=(c:Int)∧c≤8:=by
    by_cases h2:p.kind=2
    ·have h:=g1
     rw [gd,if_pos h2] at h
     simp only [cr,Bool.and_eq_true,decide_eq_true_eq] at h
     rw [if_pos h2] at hm
     exact⟨p.many.toNat,hm,by rw [if_pos h2];omega,by omega⟩
    rw [if_neg h2] at hm
    exact⟨1,hm,by rw [if_neg h2];rfl,by omega⟩
   refine qX ?_
   refine qB (fun g5=>?_) fun g5=>?_
   ·rw [if_pos g5] at hc0
    rw [hc0]
    refine qX ?_
    refine an 2 hE (fun s (x:Nat)=>s.at (qU [0,1,3,1,8,2,12,75]) [(11,.sc (.int .i64 (x:Nat))),(7,.sc (.sl 3 0 x))] ([some ⟨own.map AddrD.cs,4,88,false,true⟩,some ⟨far.map AddrD.cs,4,88,false,true⟩,some ⟨[p.cs],2,27,true,false⟩,some ⟨(ko own[0].addr far[0].addr x).map RoadD.cs,3,199,true,true⟩])) (fun (x:Nat)=>x≤c) (fun (x:Nat)=>c - x) 0 (qI 0 4) (qC) (Nat.zero_le _) (af (by rfl) (by rfl) ?_) fun x hx N hN=>?_
    ·refine qX ?_
     first|rfl|exact⟨hc0.symm,rfl⟩|skip
    refine ac 400 ?_
    have hml:=gx own[0].addr far[0].addr x
    refine qX ?_
    refine qB (fun h=>?_) fun h=>?_
    ·refine qD [0,1,2,3,4,5,6,7,8,9,10,11,12,13] ?_
     refine qG ?_
     refine⟨qC,hN _ (x+1) (qI 0 3++qI 5 1) (by (try dsimp only);exact (by omega)) (by (try dsimp only);omega) (af (by rfl) (by rfl) ?_)⟩
     try simp (disch:=omega) only [go_sem,seval]
     try simp [mh,RoadD.cs]
    have e:x=c:=by omega
    subst e
    subst hc
    rw [gx]
    exact qF (qI 0 2++qI 3 1)
   rw [if_neg g5] at hc0
   have hc1:c=1:=by omega
   subst hc1
   refine an 2 hE (fun s (x:Nat)=>s.at (qU [0,1,3,1,8,2,12,75]) [(11,.sc (.int .i64 (x:Nat))),(7,.sc (.sl 3 0 x))] ([some ⟨own.map AddrD.cs,4,88,false,true⟩,some ⟨far.map AddrD.cs,4,88,false,true⟩,some ⟨[p.cs],2,27,true,false⟩,some ⟨(ko own[0].addr far[0].addr x).map RoadD.cs,3,199,true,true⟩])) (fun (x:Nat)=>x≤1) (fun (x:Nat)=>1 - x) 0 (qI 0 4) (qC) (Nat.zero_le _) (af (by rfl) (by rfl) ?_) fun x hx N hN=>?_
   ·refine qX ?_
    first|rfl|exact⟨hc0.symm,rfl⟩|skip
   refine ac 400 ?_
   have hml:=gx own[0].addr far[0].addr x
   refine qX ?_
   refine qB (fun h=>?_) fun h=>?_
   ·refine qD [0,1,2,3,4,5,6,7,8,9,10,11,12,13] ?_
    refine qG ?_
    refine⟨qC,hN _ (x+1) (qI 0 3++qI 5 1) (by (try dsimp only);exact (by omega)) (by (try dsimp only);omega) (af (by rfl) (by rfl) ?_)⟩
    try simp (disch:=omega) only [go_sem,seval]
    try simp [mh,RoadD.cs]
   have e:x=1:=by omega
   subst e
   subst hc
   rw [gx]
   exact qF (qI 0 2++qI 3 1)
  rw [if_neg (by simp [g2])] at hm
  subst hm
  exact qF (qI 0 2++qI 3 1)
 rw [if_neg (by simp [g1])] at hm
 subst hm
 exact qF (qI 0 2++qI 3 1)
end
section
open Go.RowKit
theorem mi {e:EndD} {r:RoadD} {b:Bool} (hs:Small e):Small (gw e r b).1:=by
 rw [gw];split
 ·rename_i h
  simp only [A9,Bool.and_eq_true,decide_eq_true_eq] at h
  exact⟨hs.own,hs.far,by simp only [List.length_append,List.length_singleton];omega,hs.halfs,hs.list,hs.done,hs.over⟩
 exact hs
theorem rU (e:EndD) (r:RoadD) (b:Bool):(gw e r b).2.length≤1:=by
 rw [gw];split<;>simp
theorem rV {far:List AddrD} {e:EndD} {l:List RoadD} {k:Nat} (h:k < l.length):gY far e (l.drop k)=
  ((gY far (gw e l[k] (bS far l[k].far)).1 (l.drop (k+1))).1,(gw e l[k] (bS far l[k].far)).2++(gY far (gw e l[k] (bS far l[k].far)).1 (l.drop (k+1))).2):=by
 rw [List.drop_eq_getElem_cons h];rfl
theorem uH {far:List AddrD} {e:EndD} {l:List RoadD} {k:Nat} (h:l.length≤k):gY far e (l.drop k)=(e,[]):=by
 rw [List.drop_eq_nil_of_le h];rfl
theorem NI {e:EndD} (h:¬ (aj e=true∧e.side=1)):bs e=(e,[]):=if_neg h
theorem NJ {e:EndD} (h:aj e=true∧e.side=1):bs e=gY e.far e (d8 (wanted e.policy e.own e.far) (eq e.subs)):=if_pos h
theorem jP (a b:List RoadD):(d8 a b).length≤64:=by
 rw [d8];split
 ·rename_i h;exact Nat.le_trans (List.length_filter_le _ _) h.1
 simp
theorem uI {e:EndD} (h:aj e=true):e.policy.wf:=by
 have hp:gd e.policy=true:=by simp only [aj,Bool.and_eq_true] at h;simp_all
 rw [gd] at hp
 split at hp
 ·rename_i hk
  simp only [cr,Bool.and_eq_true,decide_eq_true_eq] at hp
  exact⟨⟨by omega,by omega⟩,⟨by omega,by omega⟩⟩
 simp only [Bool.and_eq_true,Bool.or_eq_true,beq_iff_eq] at hp
 exact⟨⟨by omega,by omega⟩,⟨by omega,by omega⟩⟩
theorem uJ (l:List SubD):(eq l).length≤l.length:=by
 rw [eq,List.length_map];exact List.length_filter_le _ _
theorem oW (e:EndD) (hs:Small e):ae Tryz.prog 149 [.ag (e.cs 0)] (e.hp false) (.tu [.ag ((bs e).1.cs 7),.sc (.sl 14 0 (bs e).2.length)])
  (e.hp false++((bs e).1.hp true++[some ⟨(bs e).2.map LetterD.cs,19,91,true,true⟩])):=by
 have hC:=(qH (aK e))
 have hK:=(qH (bf e))
 have hsub:=hs.subs
 have hsf:=hs.far
 have hso:=hs.own
 have hf:=NI (e:=e)
 have ht:=NJ (e:=e)
 have hH:=x5 e hs.subs
 have hhl:=uJ e.subs
 have hM64:=jP (wanted e.policy e.own e.far) (eq e.subs)
 obtain⟨R,hR⟩:∃ R,R=bs e:=⟨_,rfl⟩
 rw [←hR] at hf ht
 rw [←hR]
 clear hR
 refine aN Tryz.func149 (by kernel_rfl) rfl fun E hE=>ac 400 ?_
 simp (disch:=omega) only [Tryz.ntmps149,Tryz.results149,go_sem,Nat.reduceEqDiff,Nat.reduceAdd,Nat.reduceSub,Int.reduceAdd,Int.reduceSub,Int.reduceToNat]
 refine al (qC) (hC) (qI 0 7) qM (by rfl) (ac 400 ?_)
 simp (disch:=omega) only [go_sem,Nat.reduceEqDiff,Nat.reduceAdd,Nat.reduceSub,Int.reduceAdd,Int.reduceSub,Int.reduceToNat]
 refine al (qC) (hK) (qI 0 7) qM (by rfl) (ac 400 ?_)
 simp (disch:=omega) only [go_sem,Nat.reduceEqDiff,Nat.reduceAdd,Nat.reduceSub,Int.reduceAdd,Int.reduceSub,Int.reduceToNat]
 split<;>rename_i h1<;>(try simp only [beq_true,beq_false,Bool.not_eq_true',Bool.not_eq_false'] at h1)<;>simp (disch:=omega) only [go_sem,Nat.reduceEqDiff,Nat.reduceAdd,Nat.reduceSub,Int.reduceAdd,Int.reduceSub,Int.reduceToNat,h1]<;>(try simp only [decide_eq_true_eq,decide_eq_false_iff_not,beq_iff_eq,beq_eq_false_iff_ne,bne_iff_ne,bne_eq_false_iff_eq,ne_eq,Decidable.not_not,Bool.and_eq_true,Bool.and_eq_false_iff,Bool.or_eq_true,Bool.or_eq_false_iff,Int.ofNat_lt,Int.ofNat_le,Bool.not_eq_eq_eq_not,Bool.not_true,Bool.not_false] at h1)<;>try simp (disch:=omega) only [go_sem,Nat.reduceEqDiff,Nat.reduceAdd,Nat.reduceSub,Int.reduceAdd,Int.reduceSub,Int.reduceToNat]
 ·split<;>rename_i h2<;>(try simp only [beq_true,beq_false,Bool.not_eq_true',Bool.not_eq_false'] at h2)<;>simp (disch:=omega) only [go_sem,Nat.reduceEqDiff,Nat.reduceAdd,Nat.reduceSub,Int.reduceAdd,Int.reduceSub,Int.reduceToNat,h2]<;>(try simp only [decide_eq_true_eq,decide_eq_false_iff_not,beq_iff_eq,beq_eq_false_iff_ne,bne_iff_ne,bne_eq_false_iff_eq,ne_eq,Decidable.not_not,Bool.and_eq_true,Bool.and_eq_false_iff,Bool.or_eq_true,Bool.or_eq_false_iff,Int.ofNat_lt,Int.ofNat_le,Bool.not_eq_eq_eq_not,Bool.not_true,Bool.not_false] at h2)<;>try simp (disch:=omega) only [go_sem,Nat.reduceEqDiff,Nat.reduceAdd,Nat.reduceSub,Int.reduceAdd,Int.reduceSub,Int.reduceToNat]
  rotate_left
  ·have hR:=ht ⟨h1,h2⟩
   have hWa:=tA e.policy e.own e.far (uI h1) (by omega) (by omega)
   have hMi:=qh (wanted e.policy e.own e.far) (eq e.subs) (by have:=rT e.policy e.own e.far;omega) (by omega)
   generalize hMM:d8 (wanted e.policy e.own e.far) (eq e.subs)=M at*
   clear hMM
   refine ar [0,1,2,3,4,5,7,11,6,8,9,10] (by kernel_rfl) (qC) (by kernel_rfl) (aa 400 ?_)
   simp (disch:=omega) only [go_sem,Nat.reduceEqDiff,Nat.reduceAdd,Nat.reduceSub,Int.reduceAdd,Int.reduceSub,Int.reduceToNat]
   refine am (qC) (hWa) (qI 0 2) qM (by rfl) (by rfl) (aa 400 ?_)
   simp (disch:=omega) only [go_sem,Nat.reduceEqDiff,Nat.reduceAdd,Nat.reduceSub,Int.reduceAdd,Int.reduceSub,Int.reduceToNat]
   refine am (qC) (hH) (qI 0 7) qM (by rfl) (by rfl) (aa 400 ?_)
   simp (disch:=omega) only [go_sem,Nat.reduceEqDiff,Nat.reduceAdd,Nat.reduceSub,Int.reduceAdd,Int.reduceSub,Int.reduceToNat]
   refine am (qC) (hMi) (qI 17 2) qM (by rfl) (by rfl) (aa 400 ?_)
   simp (disch:=omega) only [go_sem,Nat.reduceEqDiff,Nat.reduceAdd,Nat.reduceSub,Int.reduceAdd,Int.reduceSub,Int.reduceToNat]
   refine⟨qC,ac 400 ?_⟩
   try simp (disch:=omega) only [go_sem,Nat.reduceEqDiff,Nat.reduceAdd,Nat.reduceSub,Int.reduceAdd,Int.reduceSub,Int.reduceToNat]
   refine cE 7 hE (fun s (y:Nat×EndD×List LetterD)=>s.at (qU [0,1,7,24,34,28]) [(33,.sc (.int .i64 (y.1:Nat))),(31,.sc (.sl 17 0 M.length)),(32,.sc (.int .i64 (M.length:Nat))),(5,.sc (.sl 18 0 y.2.2.length))] ((s.hp.take 9)++(y.2.1.hp true++[some ⟨[y.2.1.cs 9],25,45,true,false⟩,some ⟨M.map RoadD.cs,3,199,true,true⟩,some ⟨y.2.2.map LetterD.cs,19,91,true,true⟩]))) (fun (y:Nat×EndD×List LetterD)=>y.1≤M.length∧Small y.2.1∧y.2.2.length≤y.1∧R=((gY e.far y.2.1 (M.drop y.1)).1,y.2.2++(gY e.far y.2.1 (M.drop y.1)).2)) (fun (y:Nat×EndD×List LetterD)=>M.length - y.1) (0,e,[]) (qI 0 17++qI 19 1++qO 1) (qC) (⟨Nat.zero_le _,hs,Nat.le_refl _,hR⟩) (ab (by rfl) (by rfl) ?_) fun y hy N hN=>?_
   ·try simp (disch:=omega) only [go_sem,Nat.reduceEqDiff,Nat.reduceAdd,Nat.reduceSub,Int.reduceAdd,Int.reduceSub,Int.reduceToNat]
   obtain⟨i,e1,l⟩:=y
   obtain⟨g1,g2,g3,g4⟩:=hy
   dsimp only at g1 g2 g3 g4
   refine ac 400 ?_
   try simp (disch:=omega) only [go_sem,Nat.reduceEqDiff,Nat.reduceAdd,Nat.reduceSub,Int.reduceAdd,Int.reduceSub,Int.reduceToNat]
   split<;>rename_i b<;>(try simp only [beq_true,beq_false,Bool.not_eq_true',Bool.not_eq_false'] at b)<;>simp (disch:=omega) only [go_sem,Nat.reduceEqDiff,Nat.reduceAdd,Nat.reduceSub,Int.reduceAdd,Int.reduceSub,Int.reduceToNat,b]<;>(try simp only [decide_eq_true_eq,decide_eq_false_iff_not,beq_iff_eq,beq_eq_false_iff_ne,bne_iff_ne,bne_eq_false_iff_eq,ne_eq,Decidable.not_not,Bool.and_eq_true,Bool.and_eq_false_iff,Bool.or_eq_true,Bool.or_eq_false_iff,Int.ofNat_lt,Int.ofNat_le,Bool.not_eq_eq_eq_not,Bool.not_true,Bool.not_false] at b)<;>try simp (disch:=omega) only [go_sem,Nat.reduceEqDiff,Nat.reduceAdd,Nat.reduceSub,Int.reduceAdd,Int.reduceSub,Int.reduceToNat]
   ·rw [rV b] at g4
    have hg:=ao (enc:=RoadD.cs) b
    generalize hr:M[i]=r at*
    have hJ:=Bc e1 r (bS e.far r.far) g2
    have hj1:=rU e1 r (bS e.far r.far)
    have hjs:=mi (r:=r) (b:=bS e.far r.far) g2
    obtain⟨pr,hpr⟩:∃ p,p=gw e1 r (bS e.far r.far):=⟨_,rfl⟩
    rw [←hpr] at hJ hj1 hjs g4
    obtain⟨e2,l2⟩:=pr
    dsimp only at hJ hj1 hjs g4
    rw [←List.append_assoc] at g4
    try simp (disch:=omega) only [go_sem,Nat.reduceEqDiff,Nat.reduceAdd,Nat.reduceSub,Int.reduceAdd,Int.reduceSub,Int.reduceToNat,hg,hr]
    refine al (qC) (rR e r.far hsf) (qI 0 7) qM (by rfl) (ac 400 ?_)
    simp (disch:=omega) only [go_sem,Nat.reduceEqDiff,Nat.reduceAdd,Nat.reduceSub,Int.reduceAdd,Int.reduceSub,Int.reduceToNat]
    rcases kI e.far r.far with⟨q1,q2,q3⟩|⟨j,hj,q1,q2,q3⟩
    ·rw [q3] at hJ
     try simp (disch:=omega) only [go_sem,Nat.reduceEqDiff,Nat.reduceAdd,Nat.reduceSub,Int.reduceAdd,Int.reduceSub,Int.reduceToNat,q1]
     refine aI [(12,16)] [] [(qU [0,19]),(qU [0,12,16,1,12,4,17,2])] 7 hE (fun s=>s.at (qU [41,16]) [(9,.sc (.pt 28 0 0)),(10,.sc (.sl 27 0 l2.length))] (s.hp++(e2.hp true++[some ⟨l2.map LetterD.cs,19,91,true,true⟩,some ⟨[e2.cs 20],25,45,true,false⟩]))) (by kernel_rfl) (qC) (by kernel_rfl) ?_ (ac 400 ?_)
     rotate_left
     rotate_right
     simp only [aQ]
     refine⟨aa 400 ?_,aa 400 ?_⟩
     ·simp (disch:=omega) only [go_sem,q1]
      refine am (qC) (hJ) (qI 9 7) qM (by rfl) (by rfl) (aa 400 ?_)
      simp (disch:=omega) only [go_sem,Nat.reduceEqDiff,Nat.reduceAdd,Nat.reduceSub,Int.reduceAdd,Int.reduceSub,Int.reduceToNat]
      refine⟨qC,(qI 0 29),ab (by rfl) (by rfl) ?_⟩
      try simp (disch:=omega) only [go_sem,Nat.reduceEqDiff,Nat.reduceAdd,Nat.reduceSub,Int.reduceAdd,Int.reduceSub,Int.reduceToNat]
     ·simp (disch:=omega) only [go_sem,q1]
      refine am (qC) (hJ) (qI 9 7) qM (by rfl) (by rfl) (aa 400 ?_)
      simp (disch:=omega) only [go_sem,Nat.reduceEqDiff,Nat.reduceAdd,Nat.reduceSub,Int.reduceAdd,Int.reduceSub,Int.reduceToNat]
      refine⟨qC,(qI 0 20++qI 21 8++qI 20 1),ab (by rfl) (by rfl) ?_⟩
      try simp (disch:=omega) only [go_sem,Nat.reduceEqDiff,Nat.reduceAdd,Nat.reduceSub,Int.reduceAdd,Int.reduceSub,Int.reduceToNat]
     try simp (disch:=omega) only [go_sem,Nat.reduceEqDiff,Nat.reduceAdd,Nat.reduceSub,Int.reduceAdd,Int.reduceSub,Int.reduceToNat]
     refine⟨qC,hN _ (i+1,e2,l++l2) (qI 0 9++qI 20 7++qI 16 2++qI 29 1) (by (try dsimp only);exact⟨by omega,hjs,by simp only [List.length_append];omega,g4⟩) (by (try dsimp only);omega) (ab (by rfl) (by rfl) ?_)⟩
     try simp (disch:=omega) only [go_sem,Nat.reduceEqDiff,Nat.reduceAdd,Nat.reduceSub,Int.reduceAdd,Int.reduceSub,Int.reduceToNat]
     try simp
    rw [q3] at hJ
    have hgf:=ao (enc:=AddrD.cs) hj
    try simp (disch:=omega) only [go_sem,Nat.reduceEqDiff,Nat.reduceAdd,Nat.reduceSub,Int.reduceAdd,Int.reduceSub,Int.reduceToNat,q1]
    refine aI [(12,16)] [] [(qU [0,19]),(qU [0,12,16,1,12,4,17,2])] 7 hE (fun s=>s.at (qU [41,16]) [(9,.sc (.pt 28 0 0)),(10,.sc (.sl 27 0 l2.length))] (s.hp++(e2.hp true++[some ⟨l2.map LetterD.cs,19,91,true,true⟩,some ⟨[e2.cs 20],25,45,true,false⟩]))) (by kernel_rfl) (qC) (by kernel_rfl) ?_ (ac 400 ?_)
    rotate_left
    rotate_right
    simp only [aQ]
    refine⟨aa 400 ?_,aa 400 ?_⟩
    ·simp (disch:=omega) only [go_sem,q1,hgf]
     refine am (qC) (hJ) (qI 9 7) qM (by rfl) (by rfl) (aa 400 ?_)
     simp (disch:=omega) only [go_sem,Nat.reduceEqDiff,Nat.reduceAdd,Nat.reduceSub,Int.reduceAdd,Int.reduceSub,Int.reduceToNat]
     refine⟨qC,(qI 0 29),ab (by rfl) (by rfl) ?_⟩
     try simp (disch:=omega) only [go_sem,Nat.reduceEqDiff,Nat.reduceAdd,Nat.reduceSub,Int.reduceAdd,Int.reduceSub,Int.reduceToNat]
    ·simp (disch:=omega) only [go_sem,q1,hgf]
     refine am (qC) (hJ) (qI 9 7) qM (by rfl) (by rfl) (aa 400 ?_)
     simp (disch:=omega) only [go_sem,Nat.reduceEqDiff,Nat.reduceAdd,Nat.reduceSub,Int.reduceAdd,Int.reduceSub,Int.reduceToNat]
     refine⟨qC,(qI 0 20++qI 21 8++qI 20 1),ab (by rfl) (by rfl) ?_⟩
     try simp (disch:=omega) only [go_sem,Nat.reduceEqDiff,Nat.reduceAdd,Nat.reduceSub,Int.reduceAdd,Int.reduceSub,Int.reduceToNat]
    try simp (disch:=omega) only [go_sem,Nat.reduceEqDiff,Nat.reduceAdd,Nat.reduceSub,Int.reduceAdd,Int.reduceSub,Int.reduceToNat]
    refine⟨qC,hN _ (i+1,e2,l++l2) (qI 0 9++qI 20 7++qI 16 2++qI 29 1) (by (try dsimp only);exact⟨by omega,hjs,by simp only [List.length_append];omega,g4⟩) (by (try dsimp only);omega) (ab (by rfl) (by rfl) ?_)⟩
    try simp (disch:=omega) only [go_sem,Nat.reduceEqDiff,Nat.reduceAdd,Nat.reduceSub,Int.reduceAdd,Int.reduceSub,Int.reduceToNat]
    try simp
   rw [uH (by omega),List.append_nil] at g4
   subst g4
   try simp (disch:=omega) only [go_sem,Nat.reduceEqDiff,Nat.reduceAdd,Nat.reduceSub,Int.reduceAdd,Int.reduceSub,Int.reduceToNat]
   refine aA (qI 0 7++qI 9 7++qI 18 1) (qC) _ (by simp only [go_sem];rfl) (by rfl) (by rfl) ?_
   simp (disch:=omega) only [go_sem,Nat.reduceEqDiff,Nat.reduceAdd,Nat.reduceSub,Int.reduceAdd,Int.reduceSub,Int.reduceToNat]
  rw [hf (fun h=>h2 h.2)]
  try simp (disch:=omega) only [go_sem,Nat.reduceEqDiff,Nat.reduceAdd,Nat.reduceSub,Int.reduceAdd,Int.reduceSub,Int.reduceToNat]
  refine aA (qI 0 7++qI 9 7++qO 1) (qC) _ (by simp only [go_sem];rfl) (by rfl) (by rfl) ?_
  simp (disch:=omega) only [go_sem,Nat.reduceEqDiff,Nat.reduceAdd,Nat.reduceSub,Int.reduceAdd,Int.reduceSub,Int.reduceToNat]
 rw [hf (fun h=>by rw [h1] at h;cases h.1)]
 try simp (disch:=omega) only [go_sem,Nat.reduceEqDiff,Nat.reduceAdd,Nat.reduceSub,Int.reduceAdd,Int.reduceSub,Int.reduceToNat]
 refine aA (qI 0 7++qI 9 7++qO 1) (qC) _ (by simp only [go_sem];rfl) (by rfl) (by rfl) ?_
 simp (disch:=omega) only [go_sem,Nat.reduceEqDiff,Nat.reduceAdd,Nat.reduceSub,Int.reduceAdd,Int.reduceSub,Int.reduceToNat]
theorem oX (e:EndD) (hs:Small e):ae Tryz.prog 119 [.ag (e.cs 0)] (e.hp false) (.tu [.ag ((bs e).1.cs 7),.sc (.sl 14 0 (bs e).2.length)])
  (e.hp false++((bs e).1.hp true++[some ⟨(bs e).2.map LetterD.cs,19,91,true,true⟩])):=by
 have hC:=(qH (aD e))
 have hK:=(qH (be e))
 have hsub:=hs.subs
 have hsf:=hs.far
 have hso:=hs.own
 have hf:=NI (e:=e)
 have ht:=NJ (e:=e)
 have hH:=x6 e hs.subs
 have hhl:=uJ e.subs
 have hM64:=jP (wanted e.policy e.own e.far) (eq e.subs)
 obtain⟨R,hR⟩:∃ R,R=bs e:=⟨_,rfl⟩
 rw [←hR] at hf ht
 rw [←hR]
 clear hR
 refine ga Tryz.func119 Tryz.ntmps119 Tryz.results119 fun E hE=>?_
 refine qK (hC) (qI 0 7) ?_
 refine qK (hK) (qI 0 7) ?_
 refine qB (fun h1=>?_) fun h1=>?_
 ·refine qB (fun h2=>?_) fun h2=>?_
  rotate_left
  ·have hR:=ht ⟨h1,h2⟩
   have hWa:=tB e.policy e.own e.far (uI h1) (by omega) (by omega)
   have hMi:=qi (wanted e.policy e.own e.far) (eq e.subs) (by have:=rT e.policy e.own e.far;omega) (by omega)
   generalize hMM:d8 (wanted e.policy e.own e.far) (eq e.subs)=M at*
   clear hMM
   refine qD [0,1,2,3,4,5,7,6,8,9,10] ?_
   refine az (hWa) (qI 0 2) ?_
   refine az (hH) (qI 0 7) ?_
   refine az (hMi) (qI 18 2) ?_
   refine qG ?_
   refine cE 7 hE (fun s (y:Nat×EndD×List LetterD)=>s.at (qU [0,1,8,71]) [(7,.sc (.int .i64 (y.1:Nat))),(6,.sc (.sl 17 0 M.length)),(5,.sc (.sl 18 0 y.2.2.length))] ((s.hp.take 9)++(y.2.1.hp true++[some ⟨[y.2.1.cs 9],25,45,true,false⟩,some ⟨M.map RoadD.cs,3,199,true,true⟩,some ⟨y.2.2.map LetterD.cs,19,91,true,true⟩]))) (fun (y:Nat×EndD×List LetterD)=>y.1≤M.length∧Small y.2.1∧y.2.2.length≤y.1∧R=((gY e.far y.2.1 (M.drop y.1)).1,y.2.2++(gY e.far y.2.1 (M.drop y.1)).2)) (fun (y:Nat×EndD×List LetterD)=>M.length - y.1) (0,e,[]) (qI 0 17++qI 20 1++qI 17 1) (qC) (⟨Nat.zero_le _,hs,Nat.le_refl _,hR⟩) (ab (by rfl) (by rfl) ?_) fun y hy N hN=>?_
   ·exact qY
   obtain⟨i,e1,l⟩:=y
   obtain⟨g1,g2,g3,g4⟩:=hy
   dsimp only at g1 g2 g3 g4
   refine qR ?_
   refine qB (fun b=>?_) fun b=>?_
   ·rw [rV b] at g4
    have hg:=ao (enc:=RoadD.cs) b
    generalize hr:M[i]=r at*
    have hJ:=Bd e1 r (bS e.far r.far) g2
    have hj1:=rU e1 r (bS e.far r.far)
    have hjs:=mi (r:=r) (b:=bS e.far r.far) g2
    obtain⟨pr,hpr⟩:∃ p,p=gw e1 r (bS e.far r.far):=⟨_,rfl⟩
    rw [←hpr] at hJ hj1 hjs g4
    obtain⟨e2,l2⟩:=pr
    dsimp only at hJ hj1 hjs g4
    rw [←List.append_assoc] at g4
    try simp (disch:=omega) only [go_sem,seval,hg,hr]
    refine cE 7 hE (fun s (z:Nat×Bool)=>s.at (qU [0,1,11,26,38,41]) [(9,.sc (.int .i64 (z.1:Nat))),(8,.sc (.bo z.2))] (s.hp)) (fun (z:Nat×Bool)=>z.1≤e.far.length∧z.2=bS (e.far.take z.1) r.far) (fun (z:Nat×Bool)=>e.far.length - z.1) (0,false) (qI 0 19) (qC) (⟨Nat.zero_le _,rfl⟩) (ab (by rfl) (by rfl) ?_) fun z hz N2 hN2=>?_
    ·exact qY
    obtain⟨k,sb⟩:=z
    obtain⟨f1,f2⟩:=hz
    dsimp only at f1 f2
    refine qR ?_
    refine qB (fun c1=>?_) fun c1=>?_
    ·have hgf:=ao (enc:=AddrD.cs) c1
     have hsn:=nh (n:=r.far) c1
     rw [←f2] at hsn
     refine qD [0,1,2,3,4,5,6,7,8,9,10,11] ?_
     try simp (disch:=omega) only [go_sem,seval,hgf,hg,hr]
     refine qG ?_
     refine qB (fun c2=>?_) fun c2=>?_
     ·rw [if_pos c2] at hsn
      try simp (disch:=omega) only [go_sem,seval,hgf]
      exact UH hN2 (k+1,e.far[k].spare) (qI 0 19) (by (try dsimp only);exact⟨by omega,hsn.symm⟩)
     rw [if_neg c2] at hsn
     refine qX ?_
     exact UH hN2 (k+1,sb) (qI 0 19) (by (try dsimp only);exact⟨by omega,hsn.symm⟩)
    have e3:k=e.far.length:=by omega
    subst e3
    rw [List.take_length] at f2
    subst f2
    refine qX ?_
    refine qD [0,1,2,3,4,5,6,7,8,9,10,11] ?_
    try simp (disch:=omega) only [go_sem,seval,hg,hr]
    refine az (hJ) (qI 9 7) ?_
    refine qG ?_
    refine⟨qC,hN _ (i+1,e2,l++l2) (qI 0 9++qI 20 7++qI 16 2++qI 28 1) (by (try dsimp only);exact⟨by omega,hjs,by simp only [List.length_append];omega,g4⟩) (by (try dsimp only);omega) (ab (by rfl) (by rfl) ?_)⟩
    try simp (disch:=omega) only [go_sem,seval]
    try simp
   rw [uH (by omega),List.append_nil] at g4
   subst g4
   refine qX ?_
   exact cc (qI 0 7++qI 9 7++qI 18 1)
  rw [hf (fun h=>h2 h.2)]
  refine qX ?_
  exact cc (qI 0 7++qI 9 7++qI 17 1)
 rw [hf (fun h=>by rw [h1] at h;cases h.1)]
 refine qX ?_
 exact cc (qI 0 7++qI 9 7++qI 17 1)
end
end Go.Proofs.YtbgakfbnkkfbkaaGreat
