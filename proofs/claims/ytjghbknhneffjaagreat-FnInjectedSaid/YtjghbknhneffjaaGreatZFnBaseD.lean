/-
  Texts merged for this claim by shake.py: what its proof needs.
-/
import Derived.Test.YtjghbknhneffjaaGreatZFnBaseA
import Derived.Test.YtjghbknhneffjaaGreatZFnBaseB
set_option maxHeartbeats 16000000
set_option maxRecDepth 100000
set_option linter.unusedVariables false
set_option linter.unusedSimpArgs false
namespace Go.Proofs.YtjghbknhneffjaaGreat
section
open Go.RowKit
def BA:Nat->Nat->Rho->Bool
 |0,n0,ρ=>ρ.all fun|some (n,_)=>decide (n0<=n)|none=>true
 |k+1,n0,some (n,none)::ρ=>n == n0 && BA k (n0+1) ρ
 |_,_,_=>false
theorem ye:∀ {k n0:Nat} {ρ:Rho},BA k n0 ρ=true->(∀ i,i < k->ρ[i]? =some (some (n0+i,none)))/\(∀ i n d,k<=i->ρ[i]? =some (some (n,d))->n0+k<=n)
 |0,n0,ρ,h=>by
  refine⟨fun i hi=>by omega,fun i n d _ hr=>?_⟩
  have:=List.all_eq_true.1 (by simpa [BA] using h) _ (List.mem_of_getElem? hr)
  simpa using this
 |k+1,n0,ρ,h=>by
  cases ρ with
  |nil=>cases h
  |cons x ρ=>
   cases x with
   |none=>cases h
   |some x=>
    obtain⟨n,d⟩:=x
    cases d with
    |some d=>cases h
    |none=>
     simp only [BA,Bool.and_eq_true,beq_iff_eq] at h
     obtain⟨rfl,h⟩:=h
     obtain⟨h1,h2⟩:=ye h
     refine⟨fun i hi=>?_,fun i m d hi hr=>?_⟩
     ·cases i with
      |zero=>simp
      |succ i=>
       rw [List.getElem?_cons_succ,h1 i (by omega)]
       simp only [Option.some.injEq,Prod.mk.injEq,and_true]
       omega
     cases i with
     |zero=>omega
     |succ i=>
      rw [List.getElem?_cons_succ] at hr
      have h4:=h2 i m d (by omega) hr
      omega
theorem wm {E:Entry} {n0:Nat} (hE:E.h.length=n0) {ρ:Rho} {t s:S} (hid:BA n0 0 ρ=true) (hsep:co ρ t.hp=true) (hsl:ti ρ t.sl s.sl) (hhp:fS ρ s.hp ρ t.hp) {β:Be} {a:Act} {w:World} (hs:Sim E β s a w):Sim E (cI β ρ) t a w:=by
 obtain⟨hlo,hhi⟩:=ye hid
 have hlen:=d8 hhp
 have hl0:n0<=t.hp.length:=by
  rw [<-hlen]
  rcases Nat.lt_or_ge ρ.length n0 with h1|h1
  ·have:=hlo ρ.length h1
   rw [List.getElem?_eq_none (Nat.le_refl _)] at this
   cases this
  exact h1
 refine⟨hs.dfr,pB hsl hs.sl,pA hs.hp hhp hsep,hs.ent,?_⟩
 have st:=hs.st
 refine⟨fun o p hp=>?_,st.os,st.tape,st.output,st.size,st.block,by rw [hE];exact hl0,fun o ob hlt ho=>?_,fun o ob p hge ho hp=>?_⟩
 ·have hlt:o < n0:=by rw [<-hE,<-hs.ent];exact (List.getElem?_eq_some_iff.1 hp).1
  have h1:=hlo o hlt
  rw [Nat.zero_add] at h1
  rw [aH β h1]
  dsimp only
  rw [List.getD_eq_getElem?_getD,st.le o p hp]
  rfl
 ·rw [hE] at hlt
  have h1:=hlo o hlt
  rw [Nat.zero_add] at h1
  rcases cX hhp ho with⟨hr,_⟩|⟨n,d,ob',hr,hn,hob⟩
  ·rw [h1] at hr;cases hr
  rw [h1] at hr
  simp only [Option.some.injEq,Prod.mk.injEq] at hr
  obtain⟨rfl,rfl⟩:=hr
  obtain⟨ob0,ho0,hown0⟩:=st.old o ob' (by rw [hE];exact hlt) hn
  exact⟨ob0,ho0,fun h=>hown0 (fW hob h).2⟩
 rw [hE] at hge
 rcases cX hhp ho with⟨hr,_⟩|⟨n,d,ob',hr,hn,hob⟩
 ·rw [aH β hr] at hp;cases hp
 have hge':=hhi o n d hge hr
 rw [aH β hr] at hp
 cases d with
 |none=>
  simp only [Option.some.injEq] at hp
  rw [List.getD_eq_getElem?_getD] at hp
  have hb:β[n]? =some (some p):=by
   cases h:β[n]? with
   |none=>rw [h] at hp;cases hp
   |some z=>rw [h] at hp;simp only [Option.getD_some] at hp;rw [hp]
  exact st.fresh n ob' p (by rw [hE];omega) hn hb
 |some d=>
  simp only [Option.some.injEq] at hp
  rw [List.getD_eq_getElem?_getD] at hp
  cases h:β[n]? with
  |none=>rw [h] at hp;cases hp
  |some z=>
   rw [h] at hp
   simp only [Option.getD_some] at hp
   cases z with
   |none=>cases hp
   |some q=>
    simp only [Option.map_some,Option.some.injEq] at hp
    have:=st.fresh n ob' q (by rw [hE];omega) hn h
    rw [<-hp]
    exact this
def BB (P:Program) (rs:List ResultVar) (n0:Nat) (res:AV) (h':Hp) (s:S):Prop:=
 ∃ v ρ,jr P s rs=some v/\BA n0 0 ρ=true/\co ρ h'=true/\sP ρ res v/\fS ρ s.hp ρ h'
theorem bd {P:Program} {E:Entry} {rs:List ResultVar} {n0:Nat} {res:AV} {h':Hp} {s:S} {c:Prop} (ρ:Rho) (hc:c) (v:AV) (hr:jr P s rs=some v) (hid:BA n0 0 ρ=true) (hsep:co ρ h'=true) (hm:sP ρ res v/\fS ρ s.hp ρ h'):
  dX P E (BB P rs n0 res h') (.fin s c):=⟨hc,v,ρ,hr,hid,hsep,hm.1,hm.2⟩
theorem wn {P:Program} {f:FuncId} {fn:Func} {c:Code} (hf:P.funcs[f]? =some fn) (hname:(fn.name == "runtime.NumGoroutine")=false) (hb:fn.body=some c) {args:List AV} {h h':Hp} {res:AV}
  (H:∀ E:Entry,E.h.length=h.length->dX P E (BB P fn.results.toList h.length res h') (.go [.code c] ⟨iF fn.ntmps args,h⟩ True)):dp P f args h res h':=by
 refine⟨⟨fn,hf,hname,by rw [hb];rfl⟩,fun β w vs hs hvs=>?_⟩
 refine calls_of_wp hf hb ?_
 let E:Entry:=⟨β,h,w⟩
 have hd:=(H E rfl).2
 refine hd β _ w ⟨rfl,pE hvs,hs,hs.len,StepR.refl β h w hs.len⟩ _ fun e s' β' a' w' hK hs'=>?_
 have key:BB P fn.results.toList h.length res h' s'->a'.defers=[]/\∃ v,(results fn a'.tmps).run P w'=.ok v w'/\∃ β'' u,Ending.returned v=.returned u/\dG β'' res u/\HSim β'' h' w'/\StepR β β'' h h' w w':=by
  intro⟨v,ρ,hr,hid,hsep,hav,hhp⟩
  obtain⟨u,hrun,hu⟩:=tp hs'.hp hs'.sl hr
  have hsim:=wm (E:=E) rfl (t:=⟨[],h'⟩) (s:=⟨[],s'.hp⟩) hid hsep trivial hhp (β:=β') (a:=a') (w:=w') ⟨hs'.dfr,⟨fun i hi=>by simp [Slots.has] at hi,fun i x hx=>by simp [Slots.get] at hx⟩,hs'.hp,hs'.ent,hs'.st⟩
  exact⟨hs'.dfr,u,hrun,cI β' ρ,u,rfl,qY hav hu,hsim.hp,hsim.st⟩
 cases e with
 |normal=>exact key hK
 |ret=>exact key hK
 |_=>exact hK.elim
theorem BG {cs:List Value} (h:iH [.byte] cs):∃ n:UInt8,L2 (ScR []) (ew n) cs/\True:=by
 obtain⟨_,_,rfl,⟨n,rfl,h0,h1⟩,rfl⟩:=h
 refine⟨UInt8.ofNat n.toNat,⟨?_,trivial⟩,trivial⟩
 show Value.int .u8 n=.int .u8 ((UInt8.ofNat n.toNat).toNat:Nat)
 congr 1
 rw [UInt8.toNat_ofNat']
 omega
structure CurD where
 i:Nat
 h:Int
def CurD.cs (c:CurD) (b:List UInt8):List Sc:=[.sl 0 0 b.length,.int .i64 (c.i:Nat),.int .i64 c.h]
def CurD.hp (c:CurD) (b:List UInt8):Hp:=[some ⟨b.map ew,1,5,false,true⟩,some ⟨[c.cs b],3,125,true,false⟩]
def CurD.ok (c:CurD) (b:List UInt8):Prop:=c.i<=b.length/\b.length<=1048576
attribute [go_sem] CurD.cs CurD.hp
def iJ (a b:Int):Int:=IntKind.i64.wrap (BitVec.ofInt 64 a &&& BitVec.ofInt 64 b).toNat
def vr (a b:Int):Int:=IntKind.i64.wrap (BitVec.ofInt 64 a ^^^ BitVec.ofInt 64 b).toNat
theorem pK (a:Int):0<=iJ a 255/\iJ a 255<=255:=by
 have h:(BitVec.ofInt 64 a &&& BitVec.ofInt 64 255).toNat<=255:=by
  rw [BitVec.toNat_and]
  exact Nat.le_trans Nat.and_le_right (by decide)
 have e:iJ a 255=((BitVec.ofInt 64 a &&& BitVec.ofInt 64 255).toNat:Int):=ym (by
  have h':(BitVec.ofInt 64 a &&& BitVec.ofInt 64 255).toNat<=255:=h
  omega)
 rw [e]
 omega
def CurD.nxt (c:CurD):Int:=IntKind.i64.wrap (IntKind.i64.wrap (c.h*6364136223846793005)+1442695040888963407)
def CurD.x0 (c:CurD):Int:=iJ (vr (c.nxt.fdiv (2 ^ min 33 64)) (c.nxt.fdiv (2 ^ min 45 64))) 255
def CurD.bv (c:CurD) (b:List UInt8):Int:=if h:c.i < b.length then iJ (IntKind.i64.wrap (c.x0+b[c.i].toNat)) 255 else c.x0
def CurD.bn (c:CurD) (b:List UInt8):CurD:=if c.i < b.length then⟨c.i+1,c.nxt⟩ else⟨c.i,c.nxt⟩
theorem CurD.bv_le (c:CurD) (b:List UInt8):0<=c.bv b/\c.bv b<=255:=by
 rw [CurD.bv]
 split
 ·exact pK _
 exact pK _
theorem CurD.bn_ok {c:CurD} {b:List UInt8} (h:c.ok b):(c.bn b).ok b:=by
 rw [CurD.bn]
 split
 ·rename_i hi;exact⟨hi,h.2⟩
 exact h
theorem jA (a b:Int):qx .and .i64 a b=some (.int .i64 (iJ a b),True):=rfl
theorem mn (a b:Int):qx .xor .i64 a b=some (.int .i64 (vr a b),True):=rfl
theorem Ax (c:CurD):IntKind.i64.wrap (IntKind.i64.wrap (c.h*6364136223846793005)+1442695040888963407)=c.nxt:=rfl
theorem yy (c:CurD):iJ (vr (c.nxt.fdiv (2 ^ min 33 64)) (c.nxt.fdiv (2 ^ min 45 64))) 255=c.x0:=rfl
theorem cZ (b:List UInt8) (c:CurD) (hc:c.ok b):aP 105 [.sc (.pt 1 0 0)] (c.hp b) (.sc (.int .i64 (c.bv b))) ((c.bn b).hp b):=by
 have hi:=hc.1
 have hb:=hc.2
 refine fc Tryz.func105 (by kernel_rfl) rfl fun E hE=>ac 400 ?_
 simp (disch:=omega) only [Tryz.ntmps105,Tryz.results105,go_sem,↓jA,↓mn,seval]
 simp only [Ax]
 refine iu (qU [0,13]) (by kernel_rfl) (qC) (by kernel_rfl) (aa 400 ?_)
 simp (disch:=omega) only [go_sem,↓jA,↓mn,seval]
 simp only [yy]
 have hx:=pK (vr (c.nxt.fdiv (2 ^ min 33 64)) (c.nxt.fdiv (2 ^ min 45 64)))
 rw [yy] at hx
 have e1:c.bv b=if h:c.i < b.length then iJ (IntKind.i64.wrap (c.x0+b[c.i].toNat)) 255 else c.x0:=by rw [CurD.bv]
 have e2:(c.bn b)=if c.i < b.length then⟨c.i+1,c.nxt⟩ else⟨c.i,c.nxt⟩:=by rw [CurD.bn]
 generalize c.x0=x0 at*
 generalize c.nxt=nx at*
 refine qG ?_
 refine qD [0,1,2,3,4,5,6,7,8,9] ?_
 refine qG ?_
 refine qB (fun h=>?_) fun h=>?_
 ·have hbn:=b[c.i].toNat_lt
  rw [dif_pos h,ym (by omega)] at e1
  rw [if_pos h] at e2
  rw [e1,e2]
  refine iu (qU [0,15]) (by kernel_rfl) (qC) (by kernel_rfl) (aa 400 ?_)
  simp (disch:=omega) only [go_sem,ew,↓jA,↓mn,seval]
  generalize iJ (x0+b[c.i].toNat) 255=y
  refine qG ?_
  exact qF (qI 0 2)
 rw [dif_neg h] at e1
 rw [if_neg h] at e2
 rw [e1,e2]
 exact qF (qI 0 2)
def CurD.below (c:CurD) (b:List UInt8) (n:Int):Int×CurD:=
 if n<=0 then (0,c) else if n<=256 then ((c.bv b).tmod n,(c.bn b)) else ((c.bv b*16777216+(c.bn b).bv b*65536+((c.bn b).bn b).bv b*256+(((c.bn b).bn b).bn b).bv b).tmod n,(((c.bn b).bn b).bn b).bn b)
theorem CurD.below_ok {b:List UInt8} {c:CurD} (h:c.ok b) (n:Int):(c.below b n).2.ok b:=by
 rw [CurD.below]
 split
 ·exact h
 split
 ·exact CurD.bn_ok h
 exact CurD.bn_ok (CurD.bn_ok (CurD.bn_ok (CurD.bn_ok h)))
theorem CurD.below_lt (c:CurD) (b:List UInt8) {n:Int} (h:0 < n):0<=(c.below b n).1/\(c.below b n).1 < n:=by
 have t:∀ m:Int,0<=m->0<=m.tmod n/\m.tmod n < n:=fun m hm=>⟨Int.tmod_nonneg _ hm,Int.tmod_lt_of_pos _ h⟩
 have h0:=c.bv_le b
 have h1:=(c.bn b).bv_le b
 have h2:=((c.bn b).bn b).bv_le b
 have h3:=(((c.bn b).bn b).bn b).bv_le b
 rw [CurD.below,if_neg (by omega)]
 split
 ·exact t _ h0.1
 exact t _ (by omega)
theorem ai (b:List UInt8) (c:CurD) (hc:c.ok b) (n:Int):aP 49 [.sc (.pt 1 0 0),.sc (.int .i64 n)] (c.hp b) (.sc (.int .i64 (c.below b n).1)) ((c.below b n).2.hp b):=by
 have h0:=c.bv_le b
 have h1:=(c.bn b).bv_le b
 have h2:=((c.bn b).bn b).bv_le b
 have h3:=(((c.bn b).bn b).bn b).bv_le b
 have k1:=CurD.bn_ok hc
 have k2:=CurD.bn_ok k1
 have k3:=CurD.bn_ok k2
 obtain⟨r,hr⟩:∃ r,r=c.below b n:=⟨_,rfl⟩
 rw [<-hr]
 rw [CurD.below] at hr
 refine qE Tryz.func49 Tryz.ntmps49 Tryz.results49 fun E hE=>?_
 refine qB (fun h=>?_) fun h=>?_
 ·rw [if_pos (by omega)] at hr
  subst hr
  exact qF (qI 0 2)
 rw [if_neg (by omega)] at hr
 refine qB (fun h4=>?_) fun h4=>?_
 ·rw [if_pos (by omega)] at hr
  refine qK (cZ b c hc) (qI 0 2) ?_
  subst hr
  exact qF (qI 0 2)
 rw [if_neg (by omega)] at hr
 refine qK (cZ b c hc) (qI 0 2) ?_
 refine qK (cZ b (c.bn b) k1) (qI 0 2) ?_
 refine qK (cZ b ((c.bn b).bn b) k2) (qI 0 2) ?_
 refine qK (cZ b (((c.bn b).bn b).bn b) k3) (qI 0 2) ?_
 subst hr
 exact qF (qI 0 2)
theorem f5 (b:List UInt8) (c:CurD) (hc:c.ok b) (n:Int):aP 183 [.sc (.pt 1 0 0),.sc (.int .i64 n)] (c.hp b) (.sc (.bo ((c.below b n).1 == 0))) ((c.below b n).2.hp b):=by
 refine qE Tryz.func183 Tryz.ntmps183 Tryz.results183 fun E hE=>?_
 refine qK (ai b c hc n) (qI 0 2) ?_
 exact qF (qI 0 2)
def CurD.pick (c:CurD) (b:List UInt8) (l:List Int):Int:=l.getD (c.below b l.length).1.toNat 0
theorem bL (b:List UInt8) (c:CurD) (hc:c.ok b) (l:List Int) (h0:0 < l.length) (hl:l.length<=1000):aP 100 [.sc (.pt 1 0 0),.sc (.sl 2 0 l.length)] (c.hp b++[some ⟨l.map aM,1,3,false,true⟩]) (.sc (.int .i64 (c.pick b l))) (((c.below b l.length).2.hp b)++[some ⟨l.map aM,1,3,false,true⟩]):=by
 have hb:=c.below_lt b (n:=(l.length:Int)) (by omega)
 have hp:c.pick b l=l.getD (c.below b l.length).1.toNat 0:=rfl
 have hk:=ai b c hc l.length
 rw [hp]
 generalize c.below b l.length=r at*
 obtain⟨v,c1⟩:=r
 dsimp only at hb hk⊢
 obtain⟨k,rfl⟩:=Int.eq_ofNat_of_zero_le hb.1
 refine qE Tryz.func100 Tryz.ntmps100 Tryz.results100 fun E hE=>?_
 refine qK (hk) (qI 0 2) ?_
 have hlt:k < l.length:=by omega
 try simp (disch:=omega) only [go_sem,seval,rk _ hlt]
 exact qF (qI 0 3)
theorem CurD.pick_mem (c:CurD) (b:List UInt8) {l:List Int} (h:0 < l.length):c.pick b l∈l:=by
 have hb:=c.below_lt b (n:=(l.length:Int)) (by omega)
 rw [CurD.pick,List.getD_eq_getElem?_getD,List.getElem?_eq_getElem (by omega)]
 exact List.getElem_mem _
def mo (h:Int) (x:UInt8):Int:=iJ (IntKind.i64.wrap (IntKind.i64.wrap (IntKind.i64.wrap (h*131)+x.toNat)+7)) 1073741823
def yz (b:List UInt8):Int:=(b.take 4000).foldl mo (94701+(b.length:Int))
def pL (b:List UInt8):CurD:=⟨0,yz b⟩
theorem Cf {b:List UInt8} (h:b.length<=1048576):(pL b).ok b:=⟨Nat.zero_le _,h⟩
theorem wz {b:List UInt8} {k:Nat} {h0:Int} (h:k < b.length):(b.take (k+1)).foldl mo h0=mo ((b.take k).foldl mo h0) b[k]:=by
 rw [List.take_succ_eq_append_getElem h,List.foldl_append]
 rfl
theorem Bc (b:List UInt8) (hb:b.length<=1048576):aP 46 [.sc (.sl 0 0 b.length)] [some ⟨b.map ew,1,5,false,true⟩] (.sc (.pt 1 0 0)) ((pL b).hp b):=by
 refine qE Tryz.func46 Tryz.ntmps46 Tryz.results46 fun E hE=>?_
 refine gN 1 hE (fun s (k:Nat)=>s.at (qU [5,23]) [(4,.sc (.int .i64 (k:Nat))),(3,.sc (.int .i64 ((b.take k).foldl mo (94701+(b.length:Int)))))] (s.hp)) (fun (k:Nat)=>k<=b.length/\k<=4000) (fun (k:Nat)=>b.length - k) 0 (qI 0 1) (qC) (⟨Nat.zero_le _,Nat.zero_le _⟩) (bw (by rfl) (by rfl) ?_) fun k hk N hN=>?_
 ·refine qX ?_
  rfl
 refine qR ?_
 refine qB (fun h1=>?_) fun h1=>?_
 ·split<;>rename_i h2<;>simp only [decide_eq_true_eq,decide_eq_false_iff_not] at h2
  ·simp (disch:=omega) only [go_sem,ew,↓jA,seval]
   refine⟨qC,hN _ (k+1) (qI 0 1) (by (try dsimp only);exact⟨by omega,by omega⟩) (by (try dsimp only);omega) (bw (by rfl) (by rfl) ?_)⟩
   refine qX ?_
   rw [wz h1,ym (n:=(b[k].toNat:Int)) (by have:=b[k].toNat_lt;omega)]
   rfl
  have e:yz b=(b.take k).foldl mo (94701+(b.length:Int)):=by
   rw [yz,show k=4000 by omega]
  refine qX ?_
  refine qJ (qI 0 2) ?_
  rw [pL,e]
  exact⟨rfl,rfl⟩
 have e:yz b=(b.take k).foldl mo (94701+(b.length:Int)):=by
  rw [yz,List.take_of_length_le (by omega),List.take_of_length_le (by omega)]
 refine qJ (qI 0 2) ?_
 rw [pL,e]
 exact⟨rfl,rfl⟩
def kp (b:List UInt8):Nat->CurD->List UInt8×CurD
 |0,c=>([],c)
 |n+1,c=>(UInt8.ofNat (c.bv b).toNat::(kp b n (c.bn b)).1,(kp b n (c.bn b)).2)
theorem rM (b:List UInt8):∀ (n:Nat) (c:CurD),(kp b n c).1.length=n
 |0,_=>rfl
 |n+1,c=>by simp [kp,rM b n]
theorem vx {b:List UInt8}:∀ {n:Nat} {c:CurD},c.ok b->(kp b n c).2.ok b
 |0,_,h=>h
 |n+1,c,h=>vx (n:=n) (CurD.bn_ok h)
theorem p_ (b:List UInt8) (c:CurD) (hc:c.ok b) (n:Nat) (hn:n<=5000):aP 236 [.sc (.pt 1 0 0),.sc (.int .i64 (n:Int))] (c.hp b) (.sc (.st (kp b n c).1)) ((kp b n c).2.hp b):=by
 obtain⟨T,hT⟩:∃ T,T=kp b n c:=⟨_,rfl⟩
 rw [<-hT]
 refine qE Tryz.func236 Tryz.ntmps236 Tryz.results236 fun E hE=>?_
 refine jx 2 hE (fun s (y:List UInt8×CurD)=>s.at (qU [7,14]) [(6,.sc (.int .i64 (y.1.length:Nat))),(5,.sc (.sl 2 0 y.1.length))] (y.2.hp b++[some ⟨y.1.map ew,1,5,true,true⟩])) (fun (y:List UInt8×CurD)=>y.1.length<=n/\y.2.ok b/\(y.1++(kp b (n - y.1.length) y.2).1,(kp b (n - y.1.length) y.2).2)=T) (fun (y:List UInt8×CurD)=>n - y.1.length) ([],c) (qI 0 3) (⟨Nat.zero_le _,hc,hT.symm⟩) fun y hy N hN=>?_
 obtain⟨acc,c1⟩:=y
 obtain⟨h1,h2,h3⟩:=hy
 dsimp only at h1 h2 h3
 refine qR ?_
 refine qB (fun h=>?_) fun h=>?_
 ·have hb:=c1.bv_le b
  have hB:=cZ b c1 h2
  have o2:=CurD.bn_ok h2
  rw [show n - acc.length=(n - (acc.length+1))+1 from by omega,kp] at h3
  have hbc:=wJ (z:=c1.bv b) hb.1 (by omega)
  generalize c1.bv b=v at hb hB h3 hbc
  generalize c1.bn b=c2 at hB o2 h3
  refine qK (hB) (qI 0 2) ?_
  refine⟨qC,hN _ (acc++[UInt8.ofNat v.toNat],c2) (qI 0 2++qI 4 1) (by (try dsimp only);exact⟨by simp;omega,o2,by rw [List.length_append,List.length_singleton,List.append_assoc];exact h3⟩) (by simp;omega) (bw (by rfl) (by rfl) ?_)⟩
  try simp (disch:=omega) only [go_sem,seval,w8 hb]
  simp [hbc]
 rw [show n - acc.length=0 from by omega] at h3
 simp only [kp,List.append_nil] at h3
 subst h3
 exact qF (qI 0 2)
def CurD.pickS (c:CurD) (b:List UInt8) (l:List (List UInt8)):List UInt8:=l.getD (c.below b l.length).1.toNat []
theorem CurD.pickS_mem (c:CurD) (b:List UInt8) {l:List (List UInt8)} (h:0 < l.length):c.pickS b l∈l:=by
 have hb:=c.below_lt b (n:=(l.length:Int)) (by omega)
 rw [CurD.pickS,List.getD_eq_getElem?_getD,List.getElem?_eq_getElem (by omega)]
 exact List.getElem_mem _
theorem jK (b:List UInt8) (c:CurD) (hc:c.ok b) (l:List (List UInt8)) (h0:0 < l.length) (hl:l.length<=1000):aP 185 [.sc (.pt 1 0 0),.sc (.sl 2 0 l.length)] (c.hp b++[some ⟨l.map yw,1,9,false,true⟩]) (.sc (.st (c.pickS b l))) (((c.below b l.length).2.hp b)++[some ⟨l.map yw,1,9,false,true⟩]):=by
 have hb:=c.below_lt b (n:=(l.length:Int)) (by omega)
 have hp:c.pickS b l=l.getD (c.below b l.length).1.toNat []:=rfl
 have hk:=ai b c hc l.length
 rw [hp]
 generalize c.below b l.length=r at*
 obtain⟨v,c1⟩:=r
 dsimp only at hb hk⊢
 obtain⟨k,rfl⟩:=Int.eq_ofNat_of_zero_le hb.1
 have hlt:k < l.length:=by omega
 rw [Int.toNat_natCast,List.getD_eq_getElem?_getD,List.getElem?_eq_getElem hlt,Option.getD_some]
 refine qE Tryz.func185 Tryz.ntmps185 Tryz.results185 fun E hE=>?_
 refine qK (hk) (qI 0 2) ?_
 try simp (disch:=omega) only [go_sem,seval,yx hlt]
 exact qF (qI 0 3)
theorem rN (b:List UInt8) (c:CurD) (hc:c.ok b):∃ (x:TagD) (c':CurD),c'.ok b/\x.wf/\aP 184 [.sc (.pt 1 0 0)] (c.hp b) (.ag x.cs) (c'.hp b):=by
 have h1:=ai b c hc 4
 have o1:=CurD.below_ok hc 4
 have b1:=c.below_lt b (n:=4) (by omega)
 generalize c.below b 4=r1 at h1 o1 b1
 obtain⟨v1,c1⟩:=r1
 dsimp only at h1 o1 b1
 have h2:=ai b c1 o1 3
 have o2:=CurD.below_ok o1 3
 have b2:=c1.below_lt b (n:=3) (by omega)
 generalize c1.below b 3=r2 at h2 o2 b2
 obtain⟨v2,c2⟩:=r2
 dsimp only at h2 o2 b2
 have h3:=ai b c2 o2 3
 have o3:=CurD.below_ok o2 3
 have b3:=c2.below_lt b (n:=3) (by omega)
 generalize c2.below b 3=r3 at h3 o3 b3
 obtain⟨v3,c3⟩:=r3
 dsimp only at h3 o3 b3
 have h4:=ai b c3 o3 4
 have o4:=CurD.below_ok o3 4
 have b4:=c3.below_lt b (n:=4) (by omega)
 generalize c3.below b 4=r4 at h4 o4 b4
 obtain⟨v4,c4⟩:=r4
 dsimp only at h4 o4 b4
 have h5:=ai b c4 o4 4
 have o5:=CurD.below_ok o4 4
 have b5:=c4.below_lt b (n:=4) (by omega)
 generalize c4.below b 4=r5 at h5 o5 b5
 obtain⟨v5,c5⟩:=r5
 dsimp only at h5 o5 b5
 refine⟨⟨v1,1+v2,1+v3,v4,v5⟩,c5,o5,by simp only [TagD.wf,I64];omega,?_⟩
 refine qE Tryz.func184 Tryz.ntmps184 Tryz.results184 fun E hE=>?_
 refine qK (h1) (qI 0 2) ?_
 refine qK (h2) (qI 0 2) ?_
 refine qK (h3) (qI 0 2) ?_
 refine qK (h4) (qI 0 2) ?_
 refine qK (h5) (qI 0 2) ?_
 exact qF (qI 0 2)
theorem mI (b:List UInt8) (c:CurD) (hc:c.ok b):∃ (x:LetterD) (c':CurD),c'.ok b/\x.wf/\aP 103 [.sc (.pt 1 0 0)] (c.hp b) (.ag x.cs) (c'.hp b):=by
 have h1:=ai b c hc 13
 have o1:=CurD.below_ok hc 13
 have b1:=c.below_lt b (n:=13) (by omega)
 generalize c.below b 13=r1 at h1 o1 b1
 obtain⟨v1,c1⟩:=r1
 dsimp only at h1 o1 b1
 have h2:=bL b c1 o1 [11,12,21,22,31] (by decide) (by decide)
 have o2:=CurD.below_ok o1 (b:=b) 5
 have m2:=c1.pick_mem b (l:=[11,12,21,22,31]) (by decide)
 have w2:=(by decide:∀ x∈([11,12,21,22,31]:List Int),11<=x/\x<=31) _ m2
 rw [show (([11,12,21,22,31]:List Int).length:Int)=5 from rfl] at h2
 generalize c1.pick b [11,12,21,22,31]=v2 at h2 w2
 clear m2
 generalize c1.below b 5=r2 at h2 o2
 obtain⟨u2,c2⟩:=r2
 dsimp only at h2 o2
 have h3:=bL b c2 o2 [11,12,21,22,31] (by decide) (by decide)
 have o3:=CurD.below_ok o2 (b:=b) 5
 have m3:=c2.pick_mem b (l:=[11,12,21,22,31]) (by decide)
 have w3:=(by decide:∀ x∈([11,12,21,22,31]:List Int),11<=x/\x<=31) _ m3
 rw [show (([11,12,21,22,31]:List Int).length:Int)=5 from rfl] at h3
 generalize c2.pick b [11,12,21,22,31]=v3 at h3 w3
 clear m3
 generalize c2.below b 5=r3 at h3 o3
 obtain⟨u3,c3⟩:=r3
 dsimp only at h3 o3
 have h4:=ai b c3 o3 3
 have o4:=CurD.below_ok o3 3
 have b4:=c3.below_lt b (n:=3) (by omega)
 generalize c3.below b 3=r4 at h4 o4 b4
 obtain⟨v4,c4⟩:=r4
 dsimp only at h4 o4 b4
 have h5:=ai b c4 o4 3
 have o5:=CurD.below_ok o4 3
 have b5:=c4.below_lt b (n:=3) (by omega)
 generalize c4.below b 3=r5 at h5 o5 b5
 obtain⟨v5,c5⟩:=r5
 dsimp only at h5 o5 b5
 have h6:=bL b c5 o5 [101,102,7] (by decide) (by decide)
 have o6:=CurD.below_ok o5 (b:=b) 3
 have m6:=c5.pick_mem b (l:=[101,102,7]) (by decide)
 have w6:=(by decide:∀ x∈([101,102,7]:List Int),7<=x/\x<=102) _ m6
 rw [show (([101,102,7]:List Int).length:Int)=3 from rfl] at h6
 generalize c5.pick b [101,102,7]=v6 at h6 w6
 clear m6
 generalize c5.below b 3=r6 at h6 o6
 obtain⟨u6,c6⟩:=r6
 dsimp only at h6 o6
 have h7:=ai b c6 o6 9
 have o7:=CurD.below_ok o6 9
 have b7:=c6.below_lt b (n:=9) (by omega)
 generalize c6.below b 9=r7 at h7 o7 b7
 obtain⟨v7,c7⟩:=r7
 dsimp only at h7 o7 b7
 have h8:=ai b c7 o7 9
 have o8:=CurD.below_ok o7 9
 have b8:=c7.below_lt b (n:=9) (by omega)
 generalize c7.below b 9=r8 at h8 o8 b8
 obtain⟨v8,c8⟩:=r8
 dsimp only at h8 o8 b8
 have h9:=ai b c8 o8 9
 have o9:=CurD.below_ok o8 9
 have b9:=c8.below_lt b (n:=9) (by omega)
 generalize c8.below b 9=r9 at h9 o9 b9
 obtain⟨v9,c9⟩:=r9
 dsimp only at h9 o9 b9
 have h10:=ai b c9 o9 4
 have o10:=CurD.below_ok o9 4
 have b10:=c9.below_lt b (n:=4) (by omega)
 generalize c9.below b 4=r10 at h10 o10 b10
 obtain⟨v10,c10⟩:=r10
 dsimp only at h10 o10 b10
 have h11:=bL b c10 o10 [11,12,13,21,22,23,31] (by decide) (by decide)
 have o11:=CurD.below_ok o10 (b:=b) 7
 have m11:=c10.pick_mem b (l:=[11,12,13,21,22,23,31]) (by decide)
 have w11:=(by decide:∀ x∈([11,12,13,21,22,23,31]:List Int),11<=x/\x<=31) _ m11
 rw [show (([11,12,13,21,22,23,31]:List Int).length:Int)=7 from rfl] at h11
 generalize c10.pick b [11,12,13,21,22,23,31]=v11 at h11 w11
 clear m11
 generalize c10.below b 7=r11 at h11 o11
 obtain⟨u11,c11⟩:=r11
 dsimp only at h11 o11
 have h12:=ai b c11 o11 30
 have o12:=CurD.below_ok o11 30
 have b12:=c11.below_lt b (n:=30) (by omega)
 generalize c11.below b 30=r12 at h12 o12 b12
 obtain⟨v12,c12⟩:=r12
 dsimp only at h12 o12 b12
 have h13:=f5 b c12 o12 3
 have o13:=CurD.below_ok o12 3
 have b13:=c12.below_lt b (n:=3) (by omega)
 generalize c12.below b 3=r13 at h13 o13 b13
 obtain⟨v13,c13⟩:=r13
 dsimp only at h13 o13 b13
 generalize hq13:(v13 == 0)=q13 at h13
 rcases Bool.eq_false_or_eq_true q13 with e13|e13<;>rw [e13] at h13
 ·obtain⟨t,c14,o14,w14,h14⟩:=rN b c13 o13
  have w14:=w14
  obtain⟨t1,t2,t3,t4,t5⟩:=t
  by_cases e11:1+v1=11
  ·have h15:=jK b c14 o14 [[97],[101,118,105,108],[122,122],[]] (by decide) (by decide)
   have o15:=CurD.below_ok o14 (b:=b) 4
   have m15:=c14.pickS_mem b (l:=[[97],[101,118,105,108],[122,122],[]]) (by decide)
   have w15:=(by decide:∀ x∈([[97],[101,118,105,108],[122,122],[]]:List (List UInt8)),x.length<=20) _ m15
   rw [show (([[97],[101,118,105,108],[122,122],[]]:List (List UInt8)).length:Int)=4 from rfl] at h15
   generalize c14.pickS b [[97],[101,118,105,108],[122,122],[]]=v15 at h15 w15
   clear m15
   generalize c14.below b 4=r15 at h15 o15
   obtain⟨u15,c15⟩:=r15
   dsimp only at h15 o15
   refine⟨⟨1+v1,v2,v3,v4,v5,v6,v7,v8,v9,⟨t1,t2,t3,t4,t5⟩,v10,v11,false,v12,v15⟩,c15,o15,by simp only [LetterD.wf,I64,maxLen,TagD.wf,List.length_nil] at*;omega,?_⟩
   refine qE Tryz.func103 Tryz.ntmps103 Tryz.results103 fun E hE=>?_
   refine qK (h1) (qI 0 2) ?_
   refine qK (h2) (qI 0 2++qI 3 1) ?_
   refine qK (h3) (qI 0 2++qI 4 1) ?_
   refine qK (h4) (qI 0 2) ?_
   refine qK (h5) (qI 0 2) ?_
   refine qK (h6) (qI 0 2++qI 5 1) ?_
   refine qK (h7) (qI 0 2) ?_
   refine qK (h8) (qI 0 2) ?_
   refine qK (h9) (qI 0 2) ?_
   refine qK (h10) (qI 0 2) ?_
   refine qK (h11) (qI 0 2++qI 6 1) ?_
   refine qK (h12) (qI 0 2) ?_
   refine qK (h13) (qI 0 2) ?_
   refine qK (h14) (qI 0 2) ?_
   refine qK (h15) (qI 0 2++qI 8 1) ?_
   exact qF (qI 0 2)
  refine⟨⟨1+v1,v2,v3,v4,v5,v6,v7,v8,v9,⟨t1,t2,t3,t4,t5⟩,v10,v11,false,v12,[]⟩,c14,o14,by simp only [LetterD.wf,I64,maxLen,TagD.wf,List.length_nil] at*;omega,?_⟩
  refine qE Tryz.func103 Tryz.ntmps103 Tryz.results103 fun E hE=>?_
  refine qK (h1) (qI 0 2) ?_
  refine qK (h2) (qI 0 2++qI 3 1) ?_
  refine qK (h3) (qI 0 2++qI 4 1) ?_
  refine qK (h4) (qI 0 2) ?_
  refine qK (h5) (qI 0 2) ?_
  refine qK (h6) (qI 0 2++qI 5 1) ?_
  refine qK (h7) (qI 0 2) ?_
  refine qK (h8) (qI 0 2) ?_
  refine qK (h9) (qI 0 2) ?_
  refine qK (h10) (qI 0 2) ?_
  refine qK (h11) (qI 0 2++qI 6 1) ?_
  refine qK (h12) (qI 0 2) ?_
  refine qK (h13) (qI 0 2) ?_
  refine qK (h14) (qI 0 2) ?_
  exact qF (qI 0 2)
 by_cases e11:1+v1=11
 ·have h14:=jK b c13 o13 [[97],[101,118,105,108],[122,122],[]] (by decide) (by decide)
  have o14:=CurD.below_ok o13 (b:=b) 4
  have m14:=c13.pickS_mem b (l:=[[97],[101,118,105,108],[122,122],[]]) (by decide)
  have w14:=(by decide:∀ x∈([[97],[101,118,105,108],[122,122],[]]:List (List UInt8)),x.length<=20) _ m14
  rw [show (([[97],[101,118,105,108],[122,122],[]]:List (List UInt8)).length:Int)=4 from rfl] at h14
  generalize c13.pickS b [[97],[101,118,105,108],[122,122],[]]=v14 at h14 w14
  clear m14
  generalize c13.below b 4=r14 at h14 o14
  obtain⟨u14,c14⟩:=r14
  dsimp only at h14 o14
  refine⟨⟨1+v1,v2,v3,v4,v5,v6,v7,v8,v9,⟨0,0,0,0,0⟩,v10,v11,false,v12,v14⟩,c14,o14,by simp only [LetterD.wf,I64,maxLen,TagD.wf,List.length_nil] at*;omega,?_⟩
  refine qE Tryz.func103 Tryz.ntmps103 Tryz.results103 fun E hE=>?_
  refine qK (h1) (qI 0 2) ?_
  refine qK (h2) (qI 0 2++qI 3 1) ?_
  refine qK (h3) (qI 0 2++qI 4 1) ?_
  refine qK (h4) (qI 0 2) ?_
  refine qK (h5) (qI 0 2) ?_
  refine qK (h6) (qI 0 2++qI 5 1) ?_
  refine qK (h7) (qI 0 2) ?_
  refine qK (h8) (qI 0 2) ?_
  refine qK (h9) (qI 0 2) ?_
  refine qK (h10) (qI 0 2) ?_
  refine qK (h11) (qI 0 2++qI 6 1) ?_
  refine qK (h12) (qI 0 2) ?_
  refine qK (h13) (qI 0 2) ?_
  refine qK (h14) (qI 0 2++qI 8 1) ?_
  exact qF (qI 0 2)
 refine⟨⟨1+v1,v2,v3,v4,v5,v6,v7,v8,v9,⟨0,0,0,0,0⟩,v10,v11,false,v12,[]⟩,c13,o13,by simp only [LetterD.wf,I64,maxLen,TagD.wf,List.length_nil] at*;omega,?_⟩
 refine qE Tryz.func103 Tryz.ntmps103 Tryz.results103 fun E hE=>?_
 refine qK (h1) (qI 0 2) ?_
 refine qK (h2) (qI 0 2++qI 3 1) ?_
 refine qK (h3) (qI 0 2++qI 4 1) ?_
 refine qK (h4) (qI 0 2) ?_
 refine qK (h5) (qI 0 2) ?_
 refine qK (h6) (qI 0 2++qI 5 1) ?_
 refine qK (h7) (qI 0 2) ?_
 refine qK (h8) (qI 0 2) ?_
 refine qK (h9) (qI 0 2) ?_
 refine qK (h10) (qI 0 2) ?_
 refine qK (h11) (qI 0 2++qI 6 1) ?_
 refine qK (h12) (qI 0 2) ?_
 refine qK (h13) (qI 0 2) ?_
 exact qF (qI 0 2)
theorem Bi (b:List UInt8) (c:CurD) (hc:c.ok b):∃ (x:ActD) (c':CurD),c'.ok b/\(x.wf/\x.text.length<=200/\cO x=true)/\aP 157 [.sc (.pt 1 0 0)] (c.hp b) (.ag x.cs) (c'.hp b):=by
 have h1:=ai b c hc 2
 have o1:=CurD.below_ok hc 2
 have b1:=c.below_lt b (n:=2) (by omega)
 generalize c.below b 2=r1 at h1 o1 b1
 obtain⟨v1,c1⟩:=r1
 dsimp only at h1 o1 b1
 have h2:=ai b c1 o1 4
 have o2:=CurD.below_ok o1 4
 have b2:=c1.below_lt b (n:=4) (by omega)
 generalize c1.below b 4=r2 at h2 o2 b2
 obtain⟨v2,c2⟩:=r2
 dsimp only at h2 o2 b2
 have h3:=bL b c2 o2 [1,1,2,3,3,4,4,5,5,6,7,8,8,8,8,8,8,8,8,8,8,9,10,11,12] (by decide) (by decide)
 have o3:=CurD.below_ok o2 (b:=b) 25
 have m3:=c2.pick_mem b (l:=[1,1,2,3,3,4,4,5,5,6,7,8,8,8,8,8,8,8,8,8,8,9,10,11,12]) (by decide)
 have w3:=(by decide:∀ x∈([1,1,2,3,3,4,4,5,5,6,7,8,8,8,8,8,8,8,8,8,8,9,10,11,12]:List Int),1<=x/\x<=12) _ m3
 rw [show (([1,1,2,3,3,4,4,5,5,6,7,8,8,8,8,8,8,8,8,8,8,9,10,11,12]:List Int).length:Int)=25 from rfl] at h3
 generalize c2.pick b [1,1,2,3,3,4,4,5,5,6,7,8,8,8,8,8,8,8,8,8,8,9,10,11,12]=v3 at h3 w3
 clear m3
 generalize c2.below b 25=r3 at h3 o3
 obtain⟨u3,c3⟩:=r3
 dsimp only at h3 o3
 have hv:v3=1\/v3=2\/v3=5\/v3=6\/v3=8\/v3=11\/v3=12\/(v3≠1/\v3≠2/\v3≠5/\v3≠6/\v3≠8/\v3≠11/\v3≠12):=by omega
 rcases hv with rfl|rfl|rfl|rfl|rfl|rfl|rfl|hv
 ·have h4:=ai b c3 o3 40
  have o4:=CurD.below_ok o3 40
  have b4:=c3.below_lt b (n:=40) (by omega)
  generalize c3.below b 40=r4 at h4 o4 b4
  obtain⟨v4,c4⟩:=r4
  dsimp only at h4 o4 b4
  obtain⟨n,hn⟩:=Int.eq_ofNat_of_zero_le (show 0<=1+v4 by omega)
  have hT:=p_ b c4 o4 n (by omega)
  have oT:=vx (n:=n) o4
  have lT:=rM b n c4
  generalize kp b n c4=T at hT oT lT
  obtain⟨T,cT⟩:=T
  dsimp only at hT oT lT
  refine⟨⟨1,1+v1,v2,0,T,aF,ah⟩,cT,oT,⟨by simp only [ActD.wf,LetterD.wf,I64,maxLen,ah,aF,List.length_nil] at*;omega,by simp only [List.length_nil];omega,by simp only [cO,bj,gA,Bool.and_eq_true,decide_eq_true_eq,List.length_nil];omega⟩,?_⟩
  refine qE Tryz.func157 Tryz.ntmps157 Tryz.results157 fun E hE=>?_
  refine qK (h1) (qI 0 2) ?_
  refine qK (h2) (qI 0 2) ?_
  refine qK (h3) (qI 0 2++qI 4 1) ?_
  refine qK (h4) (qI 0 2) ?_
  try simp (disch:=omega) only [go_sem,seval,hn]
  refine qK (hT) (qI 0 2) ?_
  refine qP (qI 0 2) ?_
  first|exact⟨⟩|simp [aF,ah]
 ·have h4:=ai b c3 o3 50
  have o4:=CurD.below_ok o3 50
  have b4:=c3.below_lt b (n:=50) (by omega)
  generalize c3.below b 50=r4 at h4 o4 b4
  obtain⟨v4,c4⟩:=r4
  dsimp only at h4 o4 b4
  refine⟨⟨2,1+v1,v2,v4,[],aF,ah⟩,c4,o4,⟨by simp only [ActD.wf,LetterD.wf,I64,maxLen,ah,aF,List.length_nil] at*;omega,by simp only [List.length_nil];omega,by simp only [cO,bj,gA,Bool.and_eq_true,decide_eq_true_eq,List.length_nil];omega⟩,?_⟩
  refine qE Tryz.func157 Tryz.ntmps157 Tryz.results157 fun E hE=>?_
  refine qK (h1) (qI 0 2) ?_
  refine qK (h2) (qI 0 2) ?_
  refine qK (h3) (qI 0 2++qI 4 1) ?_
  refine qK (h4) (qI 0 2) ?_
  refine qP (qI 0 2) ?_
  first|exact⟨⟩|simp [aF,ah]
 ·have h4:=ai b c3 o3 3
  have o4:=CurD.below_ok o3 3
  have b4:=c3.below_lt b (n:=3) (by omega)
  generalize c3.below b 3=r4 at h4 o4 b4
  obtain⟨v4,c4⟩:=r4
  dsimp only at h4 o4 b4
  have h5:=ai b c4 o4 3
  have o5:=CurD.below_ok o4 3
  have b5:=c4.below_lt b (n:=3) (by omega)
  generalize c4.below b 3=r5 at h5 o5 b5
  obtain⟨v5,c5⟩:=r5
  dsimp only at h5 o5 b5
  have h6:=f5 b c5 o5 4
  have o6:=CurD.below_ok o5 4
  have b6:=c5.below_lt b (n:=4) (by omega)
  generalize c5.below b 4=r6 at h6 o6 b6
  obtain⟨v6,c6⟩:=r6
  dsimp only at h6 o6 b6
  generalize hq6:(v6 == 0)=q6 at h6
  refine⟨⟨5,1+v1,v2,0,[],⟨1+v4,10*(1+v1)+2+v5,q6,false⟩,ah⟩,c6,o6,⟨by simp only [ActD.wf,LetterD.wf,I64,maxLen,ah,aF,List.length_nil] at*;omega,by simp only [List.length_nil];omega,by simp only [cO,bj,gA,Bool.and_eq_true,decide_eq_true_eq,List.length_nil];omega⟩,?_⟩
  refine qE Tryz.func157 Tryz.ntmps157 Tryz.results157 fun E hE=>?_
  refine qK (h1) (qI 0 2) ?_
  refine qK (h2) (qI 0 2) ?_
  refine qK (h3) (qI 0 2++qI 4 1) ?_
  refine oF [(1,4),(4,8),(4,11)] [[0,3,7,10,1,2,4,5,6,8,9,11,12,13,14],[0,3,7,10,1,2,8,4,5,6,9,11,12,13,14],[0,3,7,10,1,2,8,11,4,5,6,9,12,13,14],[0,3,7,10,4,5,6,1,2,8,9,11,12,13,14]] (by kernel_rfl) (qC) (by kernel_rfl) ?_
  simp only [bm]
  refine⟨cj 400 ?_,cj 400 ?_,cj 400 ?_,cj 400 ?_⟩
  all_goals simp (disch:=omega) only [go_sem,seval]
  all_goals
   refine fK (qC) (h4) (qI 0 2) qM (by rfl) (cj 400 ?_)
   simp (disch:=omega) only [go_sem,seval]
   refine fK (qC) (h5) (qI 0 2) qM (by rfl) (cj 400 ?_)
   simp (disch:=omega) only [go_sem,seval]
   refine fK (qC) (h6) (qI 0 2) qM (by rfl) (cj 400 ?_)
   simp (disch:=omega) only [go_sem,seval]
   refine qG ?_
   refine qP (qI 0 2) ?_
   first|exact⟨⟩|simp [aF,ah]
 ·have h4:=ai b c3 o3 4
  have o4:=CurD.below_ok o3 4
  have b4:=c3.below_lt b (n:=4) (by omega)
  generalize c3.below b 4=r4 at h4 o4 b4
  obtain⟨v4,c4⟩:=r4
  dsimp only at h4 o4 b4
  refine⟨⟨6,1+v1,v4,0,[],aF,ah⟩,c4,o4,⟨by simp only [ActD.wf,LetterD.wf,I64,maxLen,ah,aF,List.length_nil] at*;omega,by simp only [List.length_nil];omega,by simp only [cO,bj,gA,Bool.and_eq_true,decide_eq_true_eq,List.length_nil];omega⟩,?_⟩
  refine qE Tryz.func157 Tryz.ntmps157 Tryz.results157 fun E hE=>?_
  refine qK (h1) (qI 0 2) ?_
  refine qK (h2) (qI 0 2) ?_
  refine qK (h3) (qI 0 2++qI 4 1) ?_
  refine qK (h4) (qI 0 2) ?_
  refine qP (qI 0 2) ?_
  first|exact⟨⟩|simp [aF,ah]
 ·have h4:=bL b c3 o3 [0,0,0,1,2] (by decide) (by decide)
  have o4:=CurD.below_ok o3 (b:=b) 5
  have m4:=c3.pick_mem b (l:=[0,0,0,1,2]) (by decide)
  have w4:=(by decide:∀ x∈([0,0,0,1,2]:List Int),0<=x/\x<=2) _ m4
  rw [show (([0,0,0,1,2]:List Int).length:Int)=5 from rfl] at h4
  generalize c3.pick b [0,0,0,1,2]=v4 at h4 w4
  clear m4
  generalize c3.below b 5=r4 at h4 o4
  obtain⟨u4,c4⟩:=r4
  dsimp only at h4 o4
  refine⟨⟨8,1+v1,v4,0,[],aF,ah⟩,c4,o4,⟨by simp only [ActD.wf,LetterD.wf,I64,maxLen,ah,aF,List.length_nil] at*;omega,by simp only [List.length_nil];omega,by simp only [cO,bj,gA,Bool.and_eq_true,decide_eq_true_eq,List.length_nil];omega⟩,?_⟩
  refine qE Tryz.func157 Tryz.ntmps157 Tryz.results157 fun E hE=>?_
  refine qK (h1) (qI 0 2) ?_
  refine qK (h2) (qI 0 2) ?_
  refine qK (h3) (qI 0 2++qI 4 1) ?_
  refine qK (h4) (qI 0 2++qI 5 1) ?_
  refine qP (qI 0 2) ?_
  first|exact⟨⟩|simp [aF,ah]
 ·obtain⟨x,c4,o4,w4,h4⟩:=mI b c3 o3
  have h5:=f5 b c4 o4 2
  have o5:=CurD.below_ok o4 2
  have b5:=c4.below_lt b (n:=2) (by omega)
  generalize c4.below b 2=r5 at h5 o5 b5
  obtain⟨v5,c5⟩:=r5
  dsimp only at h5 o5 b5
  generalize hq5:(v5 == 0)=q5 at h5
  rcases Bool.eq_false_or_eq_true q5 with e5|e5<;>rw [e5] at h5
  ·have h6:=bL b c5 o5 [4,6,11,8,13] (by decide) (by decide)
   have o6:=CurD.below_ok o5 (b:=b) 5
   have m6:=c5.pick_mem b (l:=[4,6,11,8,13]) (by decide)
   have w6:=(by decide:∀ x∈([4,6,11,8,13]:List Int),4<=x/\x<=13) _ m6
   rw [show (([4,6,11,8,13]:List Int).length:Int)=5 from rfl] at h6
   generalize c5.pick b [4,6,11,8,13]=v6 at h6 w6
   clear m6
   generalize c5.below b 5=r6 at h6 o6
   obtain⟨u6,c6⟩:=r6
   dsimp only at h6 o6
   refine⟨⟨11,1+v1,v2,0,[],aF,{ x with kind:=v6,token:=102,tag:=⟨0,0,0,0,0⟩}⟩,c6,o6,⟨by simp only [ActD.wf,LetterD.wf,I64,maxLen,ah,aF,List.length_nil] at*;omega,by simp only [List.length_nil];omega,by simp only [cO,bj,gA,Bool.and_eq_true,decide_eq_true_eq,List.length_nil];omega⟩,?_⟩
   refine qE Tryz.func157 Tryz.ntmps157 Tryz.results157 fun E hE=>?_
   refine qK (h1) (qI 0 2) ?_
   refine qK (h2) (qI 0 2) ?_
   refine qK (h3) (qI 0 2++qI 4 1) ?_
   refine qK (h4) (qI 0 2) ?_
   refine qK (h5) (qI 0 2) ?_
   refine qK (h6) (qI 0 2++qI 5 1) ?_
   refine qP (qI 0 2) ?_
   first|exact⟨⟩|simp [aF,ah]
  refine⟨⟨11,1+v1,v2,0,[],aF,{ x with tag:=⟨0,0,0,0,0⟩}⟩,c5,o5,⟨by simp only [ActD.wf,LetterD.wf,I64,maxLen,ah,aF,List.length_nil] at*;omega,by simp only [List.length_nil];omega,by simp only [cO,bj,gA,Bool.and_eq_true,decide_eq_true_eq,List.length_nil];omega⟩,?_⟩
  refine qE Tryz.func157 Tryz.ntmps157 Tryz.results157 fun E hE=>?_
  refine qK (h1) (qI 0 2) ?_
  refine qK (h2) (qI 0 2) ?_
  refine qK (h3) (qI 0 2++qI 4 1) ?_
  refine qK (h4) (qI 0 2) ?_
  refine qK (h5) (qI 0 2) ?_
  refine qP (qI 0 2) ?_
  first|exact⟨⟩|simp [aF,ah]
 ·have h4:=ai b c3 o3 30
  have o4:=CurD.below_ok o3 30
  have b4:=c3.below_lt b (n:=30) (by omega)
  generalize c3.below b 30=r4 at h4 o4 b4
  obtain⟨v4,c4⟩:=r4
  dsimp only at h4 o4 b4
  refine⟨⟨12,1+v1,v4,0,[],aF,ah⟩,c4,o4,⟨by simp only [ActD.wf,LetterD.wf,I64,maxLen,ah,aF,List.length_nil] at*;omega,by simp only [List.length_nil];omega,by simp only [cO,bj,gA,Bool.and_eq_true,decide_eq_true_eq,List.length_nil];omega⟩,?_⟩
  refine qE Tryz.func157 Tryz.ntmps157 Tryz.results157 fun E hE=>?_
  refine qK (h1) (qI 0 2) ?_
  refine qK (h2) (qI 0 2) ?_
  refine qK (h3) (qI 0 2++qI 4 1) ?_
  refine qK (h4) (qI 0 2) ?_
  refine qP (qI 0 2) ?_
  first|exact⟨⟩|simp [aF,ah]
 obtain⟨n1,n2,n5,n6,n8,n11,n12⟩:=hv
 refine⟨⟨v3,1+v1,v2,0,[],aF,ah⟩,c3,o3,⟨by simp only [ActD.wf,LetterD.wf,I64,maxLen,ah,aF,List.length_nil] at*;omega,by simp only [List.length_nil];omega,by simp only [cO,bj,gA,Bool.and_eq_true,decide_eq_true_eq,List.length_nil];omega⟩,?_⟩
 refine qE Tryz.func157 Tryz.ntmps157 Tryz.results157 fun E hE=>?_
 refine qK (h1) (qI 0 2) ?_
 refine qK (h2) (qI 0 2) ?_
 refine qK (h3) (qI 0 2++qI 4 1) ?_
 refine qP (qI 0 2) ?_
 first|exact⟨⟩|simp [aF,ah]
theorem jM (e:EndD) (x:LetterD) (hs:Small e):aP 147 [.ag (e.cs 0),.ag x.cs] (e.hp false) (.tu [.ag ((ao e x).1.cs 7),.sc (.sl 14 0 (ao e x).2.length)])
  (e.hp false++((ao e x).1.hp true++[some ⟨(ao e x).2.map LetterD.cs,19,48,true,true⟩])):=by
 have hC:=(qH (aj e))
 have hK:=(qH (au e))
 have hS:=cE e (roadOf x) (by have:=hs.subs;omega)
 have hH:=eB e.halfs (roadOf x) (by have:=hs.halfs;omega)
 have hD:=nM e.halfs (roadOf x) (by have:=hs.halfs;omega)
 have hL:=bT x
 have hbS:=fP e.subs (roadOf x)
 have hbH:=ix e.halfs (roadOf x)
 have hf:=Ev (e:=e) (x:=x)
 have hf2:=Dp (e:=e) (x:=x)
 have hb:=fun n=> @Ew e x n
 have ha1:=fun i n=> @Dq e x i n
 have ha2:=fun i=> @Dr e x i
 generalize ao e x=R at*
 refine qE Tryz.func147 Tryz.ntmps147 Tryz.results147 fun E hE=>?_
 refine qK (hC) (qI 0 7) ?_
 refine qK (bg x) [] ?_
 refine qK (hK) (qI 0 7) ?_
 refine qB (fun h1=>?_) fun h1=>?_
 ·refine qK (hL) [] ?_
  refine qB (fun h2=>?_) fun h2=>?_
  ·refine qB (fun h3=>?_) fun h3=>?_
   ·rw [hf (by simp [mE,h1,h2,h3])]
    refine qX ?_
    exact qF (qI 0 7++qI 10 7++qI 18 1)
   have hin:mE e x=true:=by simp [mE,h1,h2,h3]
   refine qX ?_
   refine qK (hH) (qI 3 1) ?_
   refine qK (hS) (qI 0 7) ?_
   rcases hbS with hk|⟨hk0,hk1⟩
   ·rcases hbH with hi|⟨hi0,hi1⟩
    ·rw [hi]
     rw [hk]
     refine qX ?_
     refine qD [0,1,2,3,4,5,6,7,8,9,10,11,12,13,14,15,16,17,18,19,20,21,22,23,24,25,26,27,28,29] ?_
     refine qG ?_
     rw [hf2 hin (yR hi) (tP hk)]
     refine qD [0,1,2,3,4,5,6,7,8,9,10,11,12,13,14,15,16,17,18,19,20,21,22,23,24,25,26,27,28,29,30,31,32] ?_
     refine qG ?_
     exact qF (qI 0 7++qI 10 7++qI 18 1)
    obtain⟨i,hi⟩:=Int.eq_ofNat_of_zero_le hi0
    have hil:i < e.halfs.length:=by omega
    have hcmp:=TagD.cmp x.tag ⟨2,e.peer,e.key,e.halfs[i].theirs,e.halfs[i].mine⟩
    simp only [TagD.cs,go_sem] at hcmp
    rw [hi]
    rw [hk]
    refine qX ?_
    refine qD [0,1,2,3,4,5,6,7,8,9,10,11,12,13,14,15,16,17,18,19,20,21,22,23,24,25,26,27,28,29] ?_
    refine qB (fun h4=>?_) fun h4=>?_
    ·refine aQ (c_ _ _ _ _) [] ?_
     refine⟨qC,ac 400 ?_⟩
     try simp (disch:=omega) only [go_sem,seval,hcmp]
     refine qB (fun h5=>?_) fun h5=>?_
     ·have hjA:rE e x=true:=by rw [km hi hil];simp [h4,h5];try omega
      rw [ha2 _ hin hjA hi hil hk]
      refine qX ?_
      refine qK (eC { e with subs:=e.subs } (jI (roadOf x) e.halfs[i]) (by have:=b_ h1;simp;omega)) (qI 10 7) ?_
      refine qK (hD) (qI 13 1) ?_
      refine aO [(0,5),(3,0),(4,0)] [[1,2,3,4,0,5,6,7],[1,2,3,0,4,5,6,7],[1,2,0,3,4,5,6,7],[1,2,3,4,5,0,6,7]] (by kernel_rfl) (qC) (by kernel_rfl) ?_
      simp only [bm]
      refine⟨aa 400 ?_,aa 400 ?_,aa 400 ?_,aa 400 ?_⟩
      all_goals simp (disch:=omega) only [go_sem,seval]
      all_goals
       refine aQ (eE (jI (roadOf x) e.halfs[i])) [] ?_
       refine qG ?_
       refine qP (qI 0 7++qI 10 2++qI 22 2++qI 14 3++qI 25 1) ?_
       first|exact⟨⟩|simp [List.map_set,SubD.cs,jI]
     have hjA':rE e x=false:=by rw [km hi hil];simp [h5]
     refine qX ?_
     rw [hf2 hin (hjA') (tP hk)]
     refine qD [0,1,2,3,4,5,6,7,8,9,10,11,12,13,14,15,16,17,18,19,20,21,22,23,24,25,26,27,28,29,30,31,32] ?_
     refine qG ?_
     exact qF (qI 0 7++qI 10 7++qI 18 1)
    have hjA':rE e x=false:=by rw [km hi hil];simp;omega
    refine qG ?_
    rw [hf2 hin (hjA') (tP hk)]
    refine qD [0,1,2,3,4,5,6,7,8,9,10,11,12,13,14,15,16,17,18,19,20,21,22,23,24,25,26,27,28,29,30,31,32] ?_
    refine qG ?_
    exact qF (qI 0 7++qI 10 7++qI 18 1)
   obtain⟨n,hk⟩:=Int.eq_ofNat_of_zero_le hk0
   have hn:n < e.subs.length:=by omega
   have hrd:=tN hk hn
   rcases hbH with hi|⟨hi0,hi1⟩
   ·rw [hi]
    rw [hk]
    refine qX ?_
    refine qD [0,1,2,3,4,5,6,7,8,9,10,11,12,13,14,15,16,17,18,19,20,21,22,23,24,25,26,27,28,29] ?_
    refine qG ?_
    have hcmp2:=TagD.cmp x.tag ⟨2,e.peer,e.key,e.subs[n].theirs,e.subs[n].mine⟩
    simp only [TagD.cs,go_sem] at hcmp2
    have hjA:=yR hi
    refine qD [0,1,2,3,4,5,6,7,8,9,10,11,12,13,14,15,16,17,18,19,20,21,22,23,24,25,26,27,28,29,30,31,32] ?_
    refine qB (fun h6=>?_) fun h6=>?_
    ·refine aQ (c_ _ _ _ _) [] ?_
     refine⟨qC,ac 400 ?_⟩
     try simp (disch:=omega) only [go_sem,seval,hcmp2]
     refine qB (fun h7=>?_) fun h7=>?_
     ·rw [hb _ hin hjA (by rw [gc hk hn];simp [h6,h7]) hk hn]
      refine qX ?_
      refine aO [(0,9),(7,0),(8,0)] [(qU [1,8,0,1,9,3]),(qU [1,7,0,1,8,4]),(qU [1,6,0,1,7,5]),(qU [1,9,0,1,10,2])] (by kernel_rfl) (qC) (by kernel_rfl) ?_
      simp only [bm]
      refine⟨aa 400 ?_,aa 400 ?_,aa 400 ?_,aa 400 ?_⟩
      all_goals simp (disch:=omega) only [go_sem,seval]
      all_goals
       refine aQ (eE e.subs[n]) [] ?_
       refine qG ?_
       refine qP (qI 0 7++qI 10 7++qI 21 1) ?_
       first|exact⟨⟩|simp [hrd]
     rw [hf2 hin hjA (by rw [gc hk hn];simp [h6,h7])]
     refine qX ?_
     exact qF (qI 0 7++qI 10 7++qI 18 1)
    rw [hf2 hin hjA (by rw [gc hk hn];simp [h6])]
    refine qG ?_
    exact qF (qI 0 7++qI 10 7++qI 18 1)
   obtain⟨i,hi⟩:=Int.eq_ofNat_of_zero_le hi0
   have hil:i < e.halfs.length:=by omega
   have hcmp:=TagD.cmp x.tag ⟨2,e.peer,e.key,e.halfs[i].theirs,e.halfs[i].mine⟩
   simp only [TagD.cs,go_sem] at hcmp
   rw [hi]
   rw [hk]
   refine qX ?_
   refine qD [0,1,2,3,4,5,6,7,8,9,10,11,12,13,14,15,16,17,18,19,20,21,22,23,24,25,26,27,28,29] ?_
   refine qB (fun h4=>?_) fun h4=>?_
   ·refine aQ (c_ _ _ _ _) [] ?_
    refine⟨qC,ac 400 ?_⟩
    try simp (disch:=omega) only [go_sem,seval,hcmp]
    refine qB (fun h5=>?_) fun h5=>?_
    ·have hjA:rE e x=true:=by rw [km hi hil];simp [h4,h5];try omega
     rw [ha1 _ _ hin hjA hi hil hk hn]
     refine qX ?_
     refine qK (eC { e with subs:=e.subs.set n { e.subs[n] with state:=4 } } (jI (roadOf x) e.halfs[i]) (by have:=b_ h1;simp;omega)) (qI 10 7) ?_
     refine qK (hD) (qI 13 1) ?_
     refine aO [(0,5),(3,0),(4,0)] [[1,2,3,4,0,5,6,7],[1,2,3,0,4,5,6,7],[1,2,0,3,4,5,6,7],[1,2,3,4,5,0,6,7]] (by kernel_rfl) (qC) (by kernel_rfl) ?_
     simp only [bm]
     refine⟨aa 400 ?_,aa 400 ?_,aa 400 ?_,aa 400 ?_⟩
     all_goals simp (disch:=omega) only [go_sem,seval]
     all_goals
      refine aQ (eE (jI (roadOf x) e.halfs[i])) [] ?_
      refine qG ?_
      refine qP (qI 0 7++qI 10 2++qI 22 2++qI 14 3++qI 25 1) ?_
      first|exact⟨⟩|simp [List.map_set,SubD.cs,jI]
    have hjA':rE e x=false:=by rw [km hi hil];simp [h5]
    refine qX ?_
    have hcmp2:=TagD.cmp x.tag ⟨2,e.peer,e.key,e.subs[n].theirs,e.subs[n].mine⟩
    simp only [TagD.cs,go_sem] at hcmp2
    have hjA:=hjA'
    refine qD [0,1,2,3,4,5,6,7,8,9,10,11,12,13,14,15,16,17,18,19,20,21,22,23,24,25,26,27,28,29,30,31,32] ?_
    refine qB (fun h6=>?_) fun h6=>?_
    ·refine aQ (c_ _ _ _ _) [] ?_
     refine⟨qC,ac 400 ?_⟩
     try simp (disch:=omega) only [go_sem,seval,hcmp2]
     refine qB (fun h7=>?_) fun h7=>?_
     ·rw [hb _ hin hjA (by rw [gc hk hn];simp [h6,h7]) hk hn]
      refine qX ?_
      refine aO [(0,9),(7,0),(8,0)] [(qU [1,8,0,1,9,3]),(qU [1,7,0,1,8,4]),(qU [1,6,0,1,7,5]),(qU [1,9,0,1,10,2])] (by kernel_rfl) (qC) (by kernel_rfl) ?_
      simp only [bm]
      refine⟨aa 400 ?_,aa 400 ?_,aa 400 ?_,aa 400 ?_⟩
      all_goals simp (disch:=omega) only [go_sem,seval]
      all_goals
       refine aQ (eE e.subs[n]) [] ?_
       refine qG ?_
       refine qP (qI 0 7++qI 10 7++qI 21 1) ?_
       first|exact⟨⟩|simp [hrd]
     rw [hf2 hin hjA (by rw [gc hk hn];simp [h6,h7])]
     refine qX ?_
     exact qF (qI 0 7++qI 10 7++qI 18 1)
    rw [hf2 hin hjA (by rw [gc hk hn];simp [h6])]
    refine qG ?_
    exact qF (qI 0 7++qI 10 7++qI 18 1)
   have hjA':rE e x=false:=by rw [km hi hil];simp;omega
   refine qG ?_
   have hcmp2:=TagD.cmp x.tag ⟨2,e.peer,e.key,e.subs[n].theirs,e.subs[n].mine⟩
   simp only [TagD.cs,go_sem] at hcmp2
   have hjA:=hjA'
   refine qD [0,1,2,3,4,5,6,7,8,9,10,11,12,13,14,15,16,17,18,19,20,21,22,23,24,25,26,27,28,29,30,31,32] ?_
   refine qB (fun h6=>?_) fun h6=>?_
   ·refine aQ (c_ _ _ _ _) [] ?_
    refine⟨qC,ac 400 ?_⟩
    try simp (disch:=omega) only [go_sem,seval,hcmp2]
    refine qB (fun h7=>?_) fun h7=>?_
    ·rw [hb _ hin hjA (by rw [gc hk hn];simp [h6,h7]) hk hn]
     refine qX ?_
     refine aO [(0,9),(7,0),(8,0)] [(qU [1,8,0,1,9,3]),(qU [1,7,0,1,8,4]),(qU [1,6,0,1,7,5]),(qU [1,9,0,1,10,2])] (by kernel_rfl) (qC) (by kernel_rfl) ?_
     simp only [bm]
     refine⟨aa 400 ?_,aa 400 ?_,aa 400 ?_,aa 400 ?_⟩
     all_goals simp (disch:=omega) only [go_sem,seval]
     all_goals
      refine aQ (eE e.subs[n]) [] ?_
      refine qG ?_
      refine qP (qI 0 7++qI 10 7++qI 21 1) ?_
      first|exact⟨⟩|simp [hrd]
    rw [hf2 hin hjA (by rw [gc hk hn];simp [h6,h7])]
    refine qX ?_
    exact qF (qI 0 7++qI 10 7++qI 18 1)
   rw [hf2 hin hjA (by rw [gc hk hn];simp [h6])]
   refine qG ?_
   exact qF (qI 0 7++qI 10 7++qI 18 1)
  rw [hf (by simp [mE,h2])]
  refine qX ?_
  exact qF (qI 0 7++qI 10 7++qI 18 1)
 rw [hf (by simp [mE,h1])]
 refine qX ?_
 exact qF (qI 0 7++qI 10 7++qI 18 1)
theorem jQ (a b:PieceD) (ha:0<=a.pos/\a.pos<=4000000000) (hb:0<=b.pos/\b.pos<=4000000000) (la:a.text.length<=1048576) (lb:b.text.length<=1048576)
  (t1:¬ a.pos+(a.text.length:Int) < b.pos) (t2:¬ b.pos+(b.text.length:Int) < a.pos):aP 263 [.ag a.cs,.ag b.cs] [] (.ag (fh a b).cs) []:=by
 by_cases h:b.pos < a.pos
 ·obtain⟨n,hn⟩:=Int.eq_ofNat_of_zero_le (show 0<=a.pos - b.pos by omega)
  rw [yY hn (by omega)]
  have hp:a.pos=b.pos+(n:Int):=by omega
  have hlt:(b.text.take n).length=n:=by simp;omega
  refine qE Tryz.func263 Tryz.ntmps263 Tryz.results263 fun E hE=>?_
  try simp (disch:=omega) only [go_sem,seval,hn]
  refine qB (fun h3=>?_) fun h3=>?_
  ·refine qX ?_
   refine qB (fun h4=>?_) fun h4=>?_
   ·have he:((n:Int)+(a.text.length:Int)).toNat=n+a.text.length:=by omega
    have hd:(b.text.drop (n+a.text.length)).length<=b.text.length:=by simp
    try simp (disch:=omega) only [go_sem,seval,he]
    refine aB [] (by (try simp (disch:=omega) only [go_sem,List.length_set,seval,he])<;>omega) _ (by simp only [go_sem];rfl) (by rfl) (by rfl) ?_
    simp (disch:=omega) only [go_sem,seval]
   refine qX ?_
   refine qJ [] ?_
   rw [List.drop_of_length_le (by omega)]
   simp
  have h5:n=b.text.length:=by omega
  refine qX ?_
  refine qJ [] ?_
  rw [List.drop_of_length_le (by omega),List.take_of_length_le (by omega)]
  simp
 obtain⟨n,hn⟩:=Int.eq_ofNat_of_zero_le (show 0<=b.pos - a.pos by omega)
 rw [yZ hn]
 have hp:b.pos=a.pos+(n:Int):=by omega
 refine qE Tryz.func263 Tryz.ntmps263 Tryz.results263 fun E hE=>?_
 try simp (disch:=omega) only [go_sem,seval,hn]
 refine qB (fun h3=>?_) fun h3=>?_
 ·refine qJ [] ?_
  rw [List.drop_of_length_le (by omega)]
  simp
 have he:((b.text.length:Int) - ((n:Int)+(b.text.length:Int) - (a.text.length:Int))).toNat=a.text.length - n:=by omega
 have hd:(b.text.drop (a.text.length - n)).length<=b.text.length:=by simp
 refine qD [0,1,2,3,4,5,6,7,8,9,10,11,12,13,14] ?_
 try simp (disch:=omega) only [go_sem,seval,he]
 refine⟨by (try simp (disch:=omega) only [go_sem,List.length_set,seval,he])<;>omega,ac 400 ?_⟩
 try simp (disch:=omega) only [go_sem,seval,he]
 exact qF []
theorem nS (p:PiecesD) (n:Int) (t:List UInt8) (hs:SmallP p):aP 234 [.ag (p.cs 0),.sc (.int .i64 n),.sc (.st t)] (p.hp false) (.ag ((bs p n t).cs 1))
  (p.hp false++(bs p n t).hp false):=by
 have hO:=aW p hs.list
 have hN:=cB p
 have hf:=EA (p:=p) (n:=n) (t:=t)
 have hold:=BT (p:=p) (n:=n) (t:=t)
 have hcut:=fun k=> @BU p n t k
 have hnew:=BV (p:=p) (n:=n) (t:=t)
 have hok:=qa.eq_1 p n t
 generalize bs p n t=R at*
 refine wn Tryz.func234 (by kernel_rfl) rfl fun E hE=>ac 400 ?_
 simp (disch:=omega) only [Tryz.ntmps234,Tryz.results234,go_sem,seval]
 refine qK (ga p hs.list) (qI 0 1) ?_
 refine qK (hO) (qI 0 1) ?_
 refine qB (fun h1=>?_) fun h1=>?_
 ·refine qK (ak n 0 1000000000) [] ?_
  rw [pP]
  refine qX ?_
  refine qB (fun h2=>?_) fun h2=>?_
  ·refine qX ?_
   refine qK (ak (t.length:Int) 1 200) [] ?_
   refine qB (fun h3=>?_) fun h3=>?_
   ·rw [hf (by rw [hok];simp [h3])]
    refine qX ?_
    refine bd (qI 0 1++qI 3 1) (qC) _ (by simp only [go_sem];rfl) (by rfl) (by rfl) ?_
    simp (disch:=omega) only [go_sem,seval]
   have hok1:qa p n t=true:=by rw [hok];simp [h1,h2,h3]
   have hF:=dt h1 hs
   have hn1:=h2
   have hn3:=h3
   simp only [gA,bj,Bool.and_eq_true,decide_eq_true_eq] at hn1 hn3
   have hr0:=hF.r0
   have hr1:=hF.r1
   have hrl:=hF.list
   have hrr:=hF.ready
   have hnx:=hF.next
   refine qX ?_
   refine qK (hN) (qI 0 1) ?_
   refine qB (fun h4=>?_) fun h4=>?_
   ·rw [hold hok1 h4]
    refine qX ?_
    refine bd (qI 0 1++qI 3 1) (qC) _ (by simp only [go_sem];rfl) (by rfl) (by rfl) ?_
    simp (disch:=omega) only [go_sem,seval]
   refine qX ?_
   refine qB (fun h7=>?_) fun h7=>?_
   ·obtain⟨m,hm⟩:=Int.eq_ofNat_of_zero_le (show 0<=nextOf p - n by omega)
    rw [hcut m hok1 hm (by omega) (by omega)]
    have hnn:nextOf p=n+(m:Int):=by omega
    have hI0:PpI 0 ⟨⟨nextOf p,t.drop m⟩,false,[]⟩:=mP (by omega) (by omega) (by simp;omega)
    have hadd:n+(m:Int)=nextOf p:=by omega
    try simp (disch:=omega) only [go_sem,seval,hm,hadd]
    obtain⟨G,hG⟩:∃ G,mO ⟨⟨nextOf p,t.drop m⟩,false,[]⟩ p.list=G:=⟨_,rfl⟩
    refine jx 1 hE (fun s (x:Nat×PpS)=>s.at (qU [0,3,9,1,13,100]) [(12,.sc (.int .i64 (x.1:Nat))),(11,.sc (.bo x.2.laid))] ([some ⟨p.list.map PieceD.cs,2,150,false,true⟩,some ⟨[p.cs 0],3,35,true,false⟩,some ⟨[[.int .i64 0,.st [],.nil]],3,35,true,false⟩,some ⟨p.list.map PieceD.cs,2,150,true,true⟩,some ⟨[p.cs 3],3,35,true,false⟩,some ⟨[x.2.own.cs],2,150,true,false⟩,some ⟨x.2.acc.map PieceD.cs,2,150,true,true⟩,some ⟨[[.int .i64 p.read,.st p.ready,.sl 6 0 x.2.acc.length]],3,35,true,false⟩])) (fun (x:Nat×PpS)=>x.1<=p.list.length/\PpI x.1 x.2/\mO x.2 (p.list.drop x.1)=G) (fun (x:Nat×PpS)=>p.list.length - x.1) (0,⟨⟨nextOf p,t.drop m⟩,false,[]⟩) (qI 0 8) (⟨Nat.zero_le _,hI0,hG⟩) fun x hx N hN=>?_
    obtain⟨k,g⟩:=x
    obtain⟨hk1,hI,hgo⟩:=hx
    dsimp only at hk1 hI hgo
    have hIo:=hI.own
    have hIp:=hI.pos
    have hIa:=hI.acc
    have hac:g.acc.length<=100:=by split at hIa<;>omega
    refine qR ?_
    refine qB (fun h=>?_) fun h=>?_
    ·have hm:=hF.texts p.list[k] (List.getElem_mem h)
     obtain⟨hm1,hm2,hm3⟩:=hm
     rw [oR h] at hgo
     refine qX ?_
     refine qB (fun h2=>?_) fun h2=>?_
     ·rw [rQ (by omega)] at hgo
      refine qX ?_
      refine sR hN (k+1,⟨g.own,g.laid,g.acc++[p.list[k]]⟩) (qI 0 6++qI 10 1++qI 7 1) (by (try dsimp only);exact⟨by omega,vz hI hm1,hgo⟩) ?_
      first|exact⟨⟩|simp [PieceD.cs]
     refine qX ?_
     refine qB (fun h3=>?_) fun h3=>?_
     ·rw [rR (by omega) (by omega)] at hgo
      cases hgl:g.laid with
      |true=>
       rw [hgl,if_pos rfl] at hgo
       try simp (disch:=omega) only [go_sem,seval,hgl]
       refine sR hN (k+1,⟨g.own,true,g.acc++[p.list[k]]⟩) (qI 0 6++qI 10 1++qI 7 1) (by (try dsimp only);exact⟨by omega,ul hI hgl hm1,hgo⟩) ?_
       first|exact⟨⟩|simp [PieceD.cs]
      |false=>
       rw [hgl,if_neg (by simp)] at hgo
       try simp (disch:=omega) only [go_sem,seval,hgl]
       refine sR hN (k+1,⟨g.own,true,g.acc++[g.own]++[p.list[k]]⟩) (qI 0 6++qI 12 1++qI 7 1) (by (try dsimp only);exact⟨by omega,um hI (by omega) hgl hm1,hgo⟩) ?_
       first|exact⟨⟩|simp [PieceD.cs]
     rw [rS (by omega) (by omega)] at hgo
     refine qX ?_
     refine qK (jQ p.list[k] g.own (by omega) (by omega) (by omega) (by omega) (by omega) (by omega)) [] ?_
     refine sR hN (k+1,⟨fh p.list[k] g.own,g.laid,g.acc⟩) (qI 0 8) (by (try dsimp only);exact⟨by omega,y0 hI hm1 hm2 hm3,hgo⟩) ?_
     first|exact⟨⟩|simp [PieceD.cs]
    have hkl:k=p.list.length:=by omega
    rw [rT (by omega)] at hgo
    subst hgo
    obtain⟨y,r,hyr,hyt,hyl⟩:=mQ hI (by omega)
    rw [rU hG hyr]
    have hyr':=hyr
    rw [iN] at hyr'
    cases hgl:g.laid with
    |true=>
     rw [hgl,if_pos rfl] at hyr'
     rw [hyr']
     try simp (disch:=omega) only [go_sem,seval,hgl,List.map_cons]
     refine qD [0,1,2,3,4,5,6,7] ?_
     refine aQ (cB ⟨p.read,p.ready,y::r⟩) (qI 6 1) ?_
     refine⟨qC,ac 400 ?_⟩
     rw [show nextOf ⟨p.read,p.ready,y::r⟩=nextOf p from rfl]
     refine qX ?_
     refine qB (fun h5=>?_) fun h5=>?_
     ·refine qD [0,1,2,3,4,5,6,7,8,9] ?_
      refine⟨qC,ac 400 ?_⟩
      have hE1:= @lI p y r h5
      refine qX ?_
      refine qK (aW ⟨p.read,p.ready++y.text,r⟩ (by simp at hyl⊢;omega)) [some (6,some 1)] ?_
      refine qB (fun h6=>?_) fun h6=>?_
      ·rw [fv (by rw [hE1];exact h6)]
       refine qX ?_
       refine bd (qI 0 1++qI 3 1) (qC) _ (by simp only [go_sem];rfl) (by rfl) (by rfl) ?_
       simp (disch:=omega) only [go_sem,seval]
      rw [fw (by rw [hE1];exact h6),hE1]
      refine qX ?_
      refine bd [some (0,none),some (6,some 1)] (qC) _ (by simp only [go_sem];rfl) (by rfl) (by rfl) ?_
      simp (disch:=omega) only [go_sem,seval]
      try simp
     have hE1:= @lJ p y r h5
     refine qX ?_
     refine qK (aW ⟨p.read,p.ready,y::r⟩ (by simp at hyl⊢;omega)) (qI 6 1) ?_
     refine qB (fun h6=>?_) fun h6=>?_
     ·rw [fv (by rw [hE1];exact h6)]
      refine qX ?_
      refine bd (qI 0 1++qI 3 1) (qC) _ (by simp only [go_sem];rfl) (by rfl) (by rfl) ?_
      simp (disch:=omega) only [go_sem,seval]
     rw [fw (by rw [hE1];exact h6),hE1]
     refine qX ?_
     refine bd (qI 0 1++qI 6 1) (qC) _ (by simp only [go_sem];rfl) (by rfl) (by rfl) ?_
     simp (disch:=omega) only [go_sem,seval]
     try simp
    |false=>
     rw [hgl,if_neg (by simp)] at hyr'
     have e1:g.acc.map PieceD.cs++[g.own.cs]=PieceD.cs y::r.map PieceD.cs:=by rw [<-List.map_cons,<-hyr'];simp
     have e2:g.acc.length+1=r.length+1:=by have:=congrArg List.length hyr';simpa using this
     simp only [PieceD.cs] at e1
     try simp (disch:=omega) only [go_sem,seval,hgl,e1,e2]
     refine qD [0,1,2,3,4,5,6,7] ?_
     refine aQ (cB ⟨p.read,p.ready,y::r⟩) (qI 9 1) ?_
     refine⟨qC,ac 400 ?_⟩
     rw [show nextOf ⟨p.read,p.ready,y::r⟩=nextOf p from rfl]
     refine qX ?_
     refine qB (fun h5=>?_) fun h5=>?_
     ·refine qD [0,1,2,3,4,5,6,7,8,9] ?_
      refine⟨qC,ac 400 ?_⟩
      have hE1:= @lI p y r h5
      refine qX ?_
      refine qK (aW ⟨p.read,p.ready++y.text,r⟩ (by simp at hyl⊢;omega)) [some (9,some 1)] ?_
      refine qB (fun h6=>?_) fun h6=>?_
      ·rw [fv (by rw [hE1];exact h6)]
       refine qX ?_
       refine bd (qI 0 1++qI 3 1) (qC) _ (by simp only [go_sem];rfl) (by rfl) (by rfl) ?_
       simp (disch:=omega) only [go_sem,seval]
      rw [fw (by rw [hE1];exact h6),hE1]
      refine qX ?_
      refine bd [some (0,none),some (9,some 1)] (qC) _ (by simp only [go_sem];rfl) (by rfl) (by rfl) ?_
      simp (disch:=omega) only [go_sem,seval]
      try simp
     have hE1:= @lJ p y r h5
     refine qX ?_
     refine qK (aW ⟨p.read,p.ready,y::r⟩ (by simp at hyl⊢;omega)) (qI 9 1) ?_
     refine qB (fun h6=>?_) fun h6=>?_
     ·rw [fv (by rw [hE1];exact h6)]
      refine qX ?_
      refine bd (qI 0 1++qI 3 1) (qC) _ (by simp only [go_sem];rfl) (by rfl) (by rfl) ?_
      simp (disch:=omega) only [go_sem,seval]
     rw [fw (by rw [hE1];exact h6),hE1]
     refine qX ?_
     refine bd (qI 0 1++qI 9 1) (qC) _ (by simp only [go_sem];rfl) (by rfl) (by rfl) ?_
     simp (disch:=omega) only [go_sem,seval]
     try simp
   rw [hnew hok1 (by omega)]
   have hI0:PpI 0 ⟨⟨n,t⟩,false,[]⟩:=mP (by omega) (by omega) (by omega)
   refine qX ?_
   obtain⟨G,hG⟩:∃ G,mO ⟨⟨n,t⟩,false,[]⟩ p.list=G:=⟨_,rfl⟩
   refine jx 1 hE (fun s (x:Nat×PpS)=>s.at (qU [0,3,9,1,13,100]) [(12,.sc (.int .i64 (x.1:Nat))),(11,.sc (.bo x.2.laid))] ([some ⟨p.list.map PieceD.cs,2,150,false,true⟩,some ⟨[p.cs 0],3,35,true,false⟩,some ⟨[[.int .i64 0,.st [],.nil]],3,35,true,false⟩,some ⟨p.list.map PieceD.cs,2,150,true,true⟩,some ⟨[p.cs 3],3,35,true,false⟩,some ⟨[x.2.own.cs],2,150,true,false⟩,some ⟨x.2.acc.map PieceD.cs,2,150,true,true⟩,some ⟨[[.int .i64 p.read,.st p.ready,.sl 6 0 x.2.acc.length]],3,35,true,false⟩])) (fun (x:Nat×PpS)=>x.1<=p.list.length/\PpI x.1 x.2/\mO x.2 (p.list.drop x.1)=G) (fun (x:Nat×PpS)=>p.list.length - x.1) (0,⟨⟨n,t⟩,false,[]⟩) (qI 0 8) (⟨Nat.zero_le _,hI0,hG⟩) fun x hx N hN=>?_
   obtain⟨k,g⟩:=x
   obtain⟨hk1,hI,hgo⟩:=hx
   dsimp only at hk1 hI hgo
   have hIo:=hI.own
   have hIp:=hI.pos
   have hIa:=hI.acc
   have hac:g.acc.length<=100:=by split at hIa<;>omega
   refine qR ?_
   refine qB (fun h=>?_) fun h=>?_
   ·have hm:=hF.texts p.list[k] (List.getElem_mem h)
    obtain⟨hm1,hm2,hm3⟩:=hm
    rw [oR h] at hgo
    refine qX ?_
    refine qB (fun h2=>?_) fun h2=>?_
    ·rw [rQ (by omega)] at hgo
     refine qX ?_
     refine sR hN (k+1,⟨g.own,g.laid,g.acc++[p.list[k]]⟩) (qI 0 6++qI 10 1++qI 7 1) (by (try dsimp only);exact⟨by omega,vz hI hm1,hgo⟩) ?_
     first|exact⟨⟩|simp [PieceD.cs]
    refine qX ?_
    refine qB (fun h3=>?_) fun h3=>?_
    ·rw [rR (by omega) (by omega)] at hgo
     cases hgl:g.laid with
     |true=>
      rw [hgl,if_pos rfl] at hgo
      try simp (disch:=omega) only [go_sem,seval,hgl]
      refine sR hN (k+1,⟨g.own,true,g.acc++[p.list[k]]⟩) (qI 0 6++qI 10 1++qI 7 1) (by (try dsimp only);exact⟨by omega,ul hI hgl hm1,hgo⟩) ?_
      first|exact⟨⟩|simp [PieceD.cs]
     |false=>
      rw [hgl,if_neg (by simp)] at hgo
      try simp (disch:=omega) only [go_sem,seval,hgl]
      refine sR hN (k+1,⟨g.own,true,g.acc++[g.own]++[p.list[k]]⟩) (qI 0 6++qI 12 1++qI 7 1) (by (try dsimp only);exact⟨by omega,um hI (by omega) hgl hm1,hgo⟩) ?_
      first|exact⟨⟩|simp [PieceD.cs]
    rw [rS (by omega) (by omega)] at hgo
    refine qX ?_
    refine qK (jQ p.list[k] g.own (by omega) (by omega) (by omega) (by omega) (by omega) (by omega)) [] ?_
    refine sR hN (k+1,⟨fh p.list[k] g.own,g.laid,g.acc⟩) (qI 0 8) (by (try dsimp only);exact⟨by omega,y0 hI hm1 hm2 hm3,hgo⟩) ?_
    first|exact⟨⟩|simp [PieceD.cs]
   have hkl:k=p.list.length:=by omega
   rw [rT (by omega)] at hgo
   subst hgo
   obtain⟨y,r,hyr,hyt,hyl⟩:=mQ hI (by omega)
   rw [rU hG hyr]
   have hyr':=hyr
   rw [iN] at hyr'
   cases hgl:g.laid with
   |true=>
    rw [hgl,if_pos rfl] at hyr'
    rw [hyr']
    try simp (disch:=omega) only [go_sem,seval,hgl,List.map_cons]
    refine qD [0,1,2,3,4,5,6,7] ?_
    refine aQ (cB ⟨p.read,p.ready,y::r⟩) (qI 6 1) ?_
    refine⟨qC,ac 400 ?_⟩
    rw [show nextOf ⟨p.read,p.ready,y::r⟩=nextOf p from rfl]
    refine qX ?_
    refine qB (fun h5=>?_) fun h5=>?_
    ·refine qD [0,1,2,3,4,5,6,7,8,9] ?_
     refine⟨qC,ac 400 ?_⟩
     have hE1:= @lI p y r h5
     refine qX ?_
     refine qK (aW ⟨p.read,p.ready++y.text,r⟩ (by simp at hyl⊢;omega)) [some (6,some 1)] ?_
     refine qB (fun h6=>?_) fun h6=>?_
     ·rw [fv (by rw [hE1];exact h6)]
      refine qX ?_
      refine bd (qI 0 1++qI 3 1) (qC) _ (by simp only [go_sem];rfl) (by rfl) (by rfl) ?_
      simp (disch:=omega) only [go_sem,seval]
     rw [fw (by rw [hE1];exact h6),hE1]
     refine qX ?_
     refine bd [some (0,none),some (6,some 1)] (qC) _ (by simp only [go_sem];rfl) (by rfl) (by rfl) ?_
     simp (disch:=omega) only [go_sem,seval]
     try simp
    have hE1:= @lJ p y r h5
    refine qX ?_
    refine qK (aW ⟨p.read,p.ready,y::r⟩ (by simp at hyl⊢;omega)) (qI 6 1) ?_
    refine qB (fun h6=>?_) fun h6=>?_
    ·rw [fv (by rw [hE1];exact h6)]
     refine qX ?_
     refine bd (qI 0 1++qI 3 1) (qC) _ (by simp only [go_sem];rfl) (by rfl) (by rfl) ?_
     simp (disch:=omega) only [go_sem,seval]
    rw [fw (by rw [hE1];exact h6),hE1]
    refine qX ?_
    refine bd (qI 0 1++qI 6 1) (qC) _ (by simp only [go_sem];rfl) (by rfl) (by rfl) ?_
    simp (disch:=omega) only [go_sem,seval]
    try simp
   |false=>
    rw [hgl,if_neg (by simp)] at hyr'
    have e1:g.acc.map PieceD.cs++[g.own.cs]=PieceD.cs y::r.map PieceD.cs:=by rw [<-List.map_cons,<-hyr'];simp
    have e2:g.acc.length+1=r.length+1:=by have:=congrArg List.length hyr';simpa using this
    simp only [PieceD.cs] at e1
    try simp (disch:=omega) only [go_sem,seval,hgl,e1,e2]
    refine qD [0,1,2,3,4,5,6,7] ?_
    refine aQ (cB ⟨p.read,p.ready,y::r⟩) (qI 9 1) ?_
    refine⟨qC,ac 400 ?_⟩
    rw [show nextOf ⟨p.read,p.ready,y::r⟩=nextOf p from rfl]
    refine qX ?_
    refine qB (fun h5=>?_) fun h5=>?_
    ·refine qD [0,1,2,3,4,5,6,7,8,9] ?_
     refine⟨qC,ac 400 ?_⟩
     have hE1:= @lI p y r h5
     refine qX ?_
     refine qK (aW ⟨p.read,p.ready++y.text,r⟩ (by simp at hyl⊢;omega)) [some (9,some 1)] ?_
     refine qB (fun h6=>?_) fun h6=>?_
     ·rw [fv (by rw [hE1];exact h6)]
      refine qX ?_
      refine bd (qI 0 1++qI 3 1) (qC) _ (by simp only [go_sem];rfl) (by rfl) (by rfl) ?_
      simp (disch:=omega) only [go_sem,seval]
     rw [fw (by rw [hE1];exact h6),hE1]
     refine qX ?_
     refine bd [some (0,none),some (9,some 1)] (qC) _ (by simp only [go_sem];rfl) (by rfl) (by rfl) ?_
     simp (disch:=omega) only [go_sem,seval]
     try simp
    have hE1:= @lJ p y r h5
    refine qX ?_
    refine qK (aW ⟨p.read,p.ready,y::r⟩ (by simp at hyl⊢;omega)) (qI 9 1) ?_
    refine qB (fun h6=>?_) fun h6=>?_
    ·rw [fv (by rw [hE1];exact h6)]
     refine qX ?_
     refine bd (qI 0 1++qI 3 1) (qC) _ (by simp only [go_sem];rfl) (by rfl) (by rfl) ?_
     simp (disch:=omega) only [go_sem,seval]
    rw [fw (by rw [hE1];exact h6),hE1]
    refine qX ?_
    refine bd (qI 0 1++qI 9 1) (qC) _ (by simp only [go_sem];rfl) (by rfl) (by rfl) ?_
    simp (disch:=omega) only [go_sem,seval]
    try simp
  rw [hf (by rw [hok];simp [h2])]
  refine qX ?_
  refine bd (qI 0 1++qI 3 1) (qC) _ (by simp only [go_sem];rfl) (by rfl) (by rfl) ?_
  simp (disch:=omega) only [go_sem,seval]
 rw [hf (by rw [hok];simp [h1])]
 refine qX ?_
 refine bd (qI 0 1++qI 3 1) (qC) _ (by simp only [go_sem];rfl) (by rfl) (by rfl) ?_
 simp (disch:=omega) only [go_sem,seval]
theorem nT (e:EndD) (x:LetterD) (hs:Small e) (hsp:SmallP e.inp):aP 152 [.ag (e.cs 0),.ag x.cs] (e.hp false) (.tu [.ag ((bF e x).1.cs 7),.sc (.sl 14 0 (bF e x).2.length)])
  (e.hp false++((bF e x).1.hpS++[some ⟨(bF e x).2.map LetterD.cs,19,48,true,true⟩])):=by
 have hC:=(qH (aj e))
 have hK:=(qH (au e))
 have hS:=ef e x hs
 have hP:=nS e.inp x.pos x.text hsp
 have hbd:=f9 e x
 have hf:=uo (e:=e) (x:=x)
 have ht:=fun (n:Nat)=> @uq e x n
 have hok:=qb.eq_1 e x
 have hql:(rX e x).list.length<=1048576:=kX (by have:=hs.list;omega)
 rw [show bs e.inp x.pos x.text=rX e x from rfl] at hP
 generalize rX e x=Q at*
 generalize bF e x=R at*
 refine qE Tryz.func152 Tryz.ntmps152 Tryz.results152 fun E hE=>?_
 refine qK (hC) (qI 0 7) ?_
 refine qK (hS) (qI 0 7) ?_
 rcases hbd with hon|⟨n,hon,hk,hn,hq1,hq2⟩
 ·rw [hf (by rw [hok];simp [hon]),hon]
  refine qX ?_
  exact qF (qI 0 7++qI 10 7++qI 18 1)
 rw [hon]
 refine qX ?_
 refine qX ?_
 refine qK (hP) (qI 4 1) ?_
 refine qK (cB Q) (qI 19 1) ?_
 refine qB (fun h7=>?_) fun h7=>?_
 ·rw [hf (by rw [hok];simp;omega)]
  refine qX ?_
  exact qF (qI 0 7++qI 10 7++qI 18 1)
 rw [ht _ (by rw [hok];simp [hon];omega) hon hn]
 refine qX ?_
 refine aO [(0,15),(3,0),(11,0),(13,0),(14,0)] [(qU [1,2,4,7,3,1,11,4,0,1,15,3]),(qU [1,2,4,7,3,1,11,3,0,1,14,4]),(qU [1,2,4,7,3,1,11,2,0,1,13,5]),(qU [1,2,4,7,3,1,0,1,11,7]),(qU [1,2,4,7,0,1,3,1,11,7]),(qU [1,2,4,7,3,1,11,5,0,1,16,2])] (by kernel_rfl) (qC) (by kernel_rfl) ?_
 simp only [bm]
 refine⟨aa 400 ?_,aa 400 ?_,aa 400 ?_,aa 400 ?_,aa 400 ?_,aa 400 ?_⟩
 all_goals simp (disch:=omega) only [go_sem,seval]
 all_goals
  refine aQ (bg x) [] ?_
  refine aQ (cB Q) (qI 19 1) ?_
  refine aQ (aw (roadOf x) { ah with kind:=12,sgn:=e.subs[n].give,pos:=nextOf Q }) [] ?_
  refine qG ?_
  refine qP (qI 0 7++qI 10 4++qI 19 1++qI 15 2++qI 22 1) ?_
  first|exact⟨⟩|simp [vA,aq,LetterD.cs]
def uS:Hp->Bool
 |[]=>true
 |some ob::h=> !ob.own && uS h
 |none::h=>uS h
theorem nC:∀ {h:Hp} {o:Nat} {ob:AObj},uS h=true->h[o]? =some (some ob)->ob.own=false
 |some x::h,0,ob,hr,ho=>by
  simp only [uS,Bool.and_eq_true,Bool.not_eq_true'] at hr
  simp at ho
  subst ho
  exact hr.1
 |some x::h,o+1,ob,hr,ho=>by
  simp only [uS,Bool.and_eq_true] at hr
  exact nC hr.2 (by simpa using ho)
 |none::h,0,ob,hr,ho=>by simp at ho
 |none::h,o+1,ob,hr,ho=>nC (h:=h) hr (by simpa using ho)
 |[],o,ob,_,ho=>by simp at ho
theorem zS {β:Be} {w:World}:∀ {l:Be} {h:Hp},Cu β w l h->uS h=true
 |[],[],_=>rfl
 |p::l,some ob::h,hr=>by
  have:=zS hr.2
  simp [uS,hr.1.1,this]
 |[],_::_,h=>h.elim
 |_::_,[],h=>h.elim
 |_::_,none::_,h=>h.elim
theorem DG {P:Program} {f:FuncId} {args:List AV} {b:Bool} {h h':Hp} (ct:dp P f args h (.sc (.bo b)) h') {β:Be} {w:World} (hr:Cu β w β h) {vs:List Value} (hvs:L2 (dG β) args vs):
  Calls P f vs.toArray w fun e w'=>e=.returned (.bool b)/\Below w.heap.size w w':=
 (ct.2 β w vs (yl hr) hvs).mono fun e w' ⟨β',v,he,hv,hh,hst⟩=>by
  have hv':v=.bool b:=hv
  subst hv'
  exact⟨he,⟨hst.os,hst.tape,hst.output,hst.size,fun k hk=>hst.block k hk fun⟨o,ob,p,ho,hown,hp,_⟩=>by
   rw [nC (zS hr) ho] at hown
   cases hown⟩⟩
end
end Go.Proofs.YtjghbknhneffjaaGreat
