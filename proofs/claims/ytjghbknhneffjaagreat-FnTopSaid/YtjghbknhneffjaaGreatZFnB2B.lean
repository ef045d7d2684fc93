/-
  Texts merged for this claim by shake.py: what its proof needs.
-/
import Derived.Test.YtjghbknhneffjaaGreatZFnBaseL
import Derived.Test.YtjghbknhneffjaaGreatZFnBaseM
import Derived.Test.YtjghbknhneffjaaGreatZFnBaseN
set_option maxHeartbeats 16000000
set_option maxRecDepth 100000
set_option linter.unusedVariables false
set_option linter.unusedSimpArgs false
namespace Go.Proofs.YtjghbknhneffjaaGreat
section
open Go.RowKit
section
variable {P:Program} {β:Be} {s:S} {a:Act} {w:World} {o:Oper} {r:OpR} {ty:TypeId}
end
end
section
end
section
end
section
end
section
open Go.RowKit
theorem d1 (n:Int):aP 57 [.sc (.int .i64 n)] [] (.sc (.int .i64 (sideAt n))) []:=by
 refine qE Tryz.func57 Tryz.ntmps57 Tryz.results57 fun E hE=>?_
 refine qK (Bg _ _ _) [] ?_
 refine qB (fun h1=>?_) fun h1=>?_
 ·refine qJ [] ?_
  simp [sideAt,h1]
 refine qK (Bg _ _ _) [] ?_
 refine qB (fun h2=>?_) fun h2=>?_
 ·refine qJ [] ?_
  simp [sideAt,h1,h2]
 refine qJ [] ?_
 simp [sideAt,h1,h2]
theorem cl (e:EndD) (n:Int) (hl:e.own.length<=1048576):aP 124 [.ag (e.cs 0),.sc (.int .i64 n)] (e.hp false) (.sc (.bo (fN e.own n))) (e.hp false):=by
 refine qE Tryz.func124 Tryz.ntmps124 Tryz.results124 fun E hE=>?_
 refine jx 7 hE (fun s (k:Nat)=>s.at (qU [0,1,2,1,4,1,6,2,11,8]) [(10,.sc (.int .i64 (k:Nat)))] (s.hp)) (fun (k:Nat)=>k<=e.own.length/\(e.own.drop k).any (fun a=>a.addr == n)=fN e.own n) (fun (k:Nat)=>e.own.length - k) 0 (qI 0 8) (⟨Nat.zero_le _,rfl⟩) fun k hk N hN=>?_
 obtain⟨hk1,hk2⟩:=hk
 refine qR ?_
 refine qB (fun h=>?_) fun h=>?_
 ·rw [fM h] at hk2
  refine qX ?_
  refine qB (fun h2=>?_) fun h2=>?_
  ·have hp:(e.own[k].addr == n)=true:=by simp [h2]
   rw [hp] at hk2
   refine qJ (qI 0 7) ?_
   exact hk2
  have hp:(e.own[k].addr == n)=false:=by simp [h2]
  rw [hp] at hk2
  exact qN hN (k+1) (qI 0 8) (by (try dsimp only);exact⟨by omega,hk2⟩)
 rw [fu (by omega)] at hk2
 refine qJ (qI 0 7) ?_
 exact hk2
theorem ct (l:List Int) (n:Int) (hl:l.length<=1048576):aP 59 [.sc (.sl 0 0 l.length),.sc (.int .i64 n)] [some ⟨l.map aM,1,3,false,true⟩] (.sc (.bo (mq l n))) [some ⟨l.map aM,1,3,false,true⟩]:=by
 refine qE Tryz.func59 Tryz.ntmps59 Tryz.results59 fun E hE=>?_
 refine jx 1 hE (fun s (k:Nat)=>s.at (qU [0,1,4,1,6,1,10,7]) [(9,.sc (.int .i64 (k:Nat)))] (s.hp)) (fun (k:Nat)=>k<=l.length/\(l.drop k).any (fun a=>a == n)=mq l n) (fun (k:Nat)=>l.length - k) 0 (qI 0 1) (⟨Nat.zero_le _,rfl⟩) fun k hk N hN=>?_
 obtain⟨hk1,hk2⟩:=hk
 refine qR ?_
 refine qB (fun h=>?_) fun h=>?_
 ·rw [fM h] at hk2
  refine qX ?_
  refine qB (fun h2=>?_) fun h2=>?_
  ·have hp:(l[k] == n)=true:=by simp [h2]
   rw [hp] at hk2
   refine qJ (qI 0 1) ?_
   exact hk2
  have hp:(l[k] == n)=false:=by simp [h2]
  rw [hp] at hk2
  exact qN hN (k+1) (qI 0 1) (by (try dsimp only);exact⟨by omega,hk2⟩)
 rw [fu (by omega)] at hk2
 refine qJ (qI 0 1) ?_
 exact hk2
end
section
open Go.RowKit
section
variable {P:Program} {β:Be}
end
end
section
open Go.RowKit
theorem ns (k:KnownD) (t:TagD) (h0:k.keys.length<=1048576) (h1:k.tags.length<=1048576):aP 58 [.ag (k.cs 0),.ag t.cs] (k.hp false) (.sc (.bo (f7 k t))) (k.hp false):=by
 obtain⟨R,hR⟩:∃ R,R=f7 k t:=⟨_,rfl⟩
 rw [<-hR]
 rw [f7] at hR
 have hcmp:=TagD.cmp t lF
 simp only [TagD.cs,lF,go_sem] at hcmp
 have ht:lF=⟨0,0,0,0,0⟩:=rfl
 refine qE Tryz.func58 Tryz.ntmps58 Tryz.results58 fun E hE=>?_
 try simp (disch:=omega) only [go_sem,seval,hcmp]
 refine qB (fun b1=>?_) fun b1=>?_
 ·have b1':=of_decide_eq_false b1
  refine qK (ct k.keys t.one h0) (qI 0 1) ?_
  refine qB (fun b2=>?_) fun b2=>?_
  ·refine qK (ct k.keys t.two h0) (qI 0 1) ?_
   refine qB (fun b3=>?_) fun b3=>?_
   ·have hR':R=true:=by rw [hR];simp [b2,b3]
    subst hR'
    refine qX ?_
    exact qF (qI 0 2)
   have hR':R=(k.tags.take 300).any (fun u=>decide (u=t)):=by rw [hR,ht];simp [b1',b2,b3]
   refine qX ?_
   refine jx 2 hE (fun s (i:Nat)=>s.at (qU [0,2,4,1,6,35]) [(5,.sc (.int .i64 (i:Nat)))] (s.hp)) (fun (i:Nat)=>i<=k.tags.length/\i<=300/\((k.tags.take 300).drop i).any (fun u=>decide (u=t))=R) (fun (i:Nat)=>k.tags.length - i) 0 (qI 0 4) (⟨Nat.zero_le _,Nat.zero_le _,by rw [hR'];rfl⟩) fun i hi N hN=>?_
   obtain⟨hi1,hi2,hi3⟩:=hi
   refine qR ?_
   refine qB (fun h=>?_) fun h=>?_
   ·refine qB (fun h2=>?_) fun h2=>?_
    ·rw [fM (by simp;omega),List.getElem_take] at hi3
     have hcm:=TagD.cmp k.tags[i] t
     simp only [TagD.cs,go_sem] at hcm
     refine qX ?_
     refine qD [0,1,2,3,4,5,6] ?_
     refine⟨qC,ac 400 ?_⟩
     try simp (disch:=omega) only [go_sem,seval,hcm]
     refine qB (fun h3=>?_) fun h3=>?_
     ·rw [decide_eq_true h3,Bool.true_or] at hi3
      subst hi3
      refine qX ?_
      exact qF (qI 0 2)
     rw [decide_eq_false h3,Bool.false_or] at hi3
     exact qN hN (i+1) (qI 0 4) (by (try dsimp only);exact⟨by omega,by omega,hi3⟩)
    rw [fu (by simp;omega)] at hi3
    subst hi3
    refine qX ?_
    exact qF (qI 0 2)
   rw [fu (by simp;omega)] at hi3
   subst hi3
   refine qX ?_
   exact qF (qI 0 2)
  have hR':R=(k.tags.take 300).any (fun u=>decide (u=t)):=by rw [hR,ht];simp [b1',b2]
  refine qX ?_
  refine jx 2 hE (fun s (i:Nat)=>s.at (qU [0,2,4,1,6,35]) [(5,.sc (.int .i64 (i:Nat)))] (s.hp)) (fun (i:Nat)=>i<=k.tags.length/\i<=300/\((k.tags.take 300).drop i).any (fun u=>decide (u=t))=R) (fun (i:Nat)=>k.tags.length - i) 0 (qI 0 4) (⟨Nat.zero_le _,Nat.zero_le _,by rw [hR'];rfl⟩) fun i hi N hN=>?_
  obtain⟨hi1,hi2,hi3⟩:=hi
  refine qR ?_
  refine qB (fun h=>?_) fun h=>?_
  ·refine qB (fun h2=>?_) fun h2=>?_
   ·rw [fM (by simp;omega),List.getElem_take] at hi3
    have hcm:=TagD.cmp k.tags[i] t
    simp only [TagD.cs,go_sem] at hcm
    refine qX ?_
    refine qD [0,1,2,3,4,5,6] ?_
    refine⟨qC,ac 400 ?_⟩
    try simp (disch:=omega) only [go_sem,seval,hcm]
    refine qB (fun h3=>?_) fun h3=>?_
    ·rw [decide_eq_true h3,Bool.true_or] at hi3
     subst hi3
     refine qX ?_
     exact qF (qI 0 2)
    rw [decide_eq_false h3,Bool.false_or] at hi3
    exact qN hN (i+1) (qI 0 4) (by (try dsimp only);exact⟨by omega,by omega,hi3⟩)
   rw [fu (by simp;omega)] at hi3
   subst hi3
   refine qX ?_
   exact qF (qI 0 2)
  rw [fu (by simp;omega)] at hi3
  subst hi3
  refine qX ?_
  exact qF (qI 0 2)
 have b1':=of_decide_eq_true b1
 have hR':R=true:=by rw [hR,ht];simp [b1']
 subst hR'
 refine qX ?_
 exact qF (qI 0 2)
theorem ch (l:List LetterD) (hl:l.length<=1048576):aP 121 [.sc (.sl 0 0 l.length)] [some ⟨l.map LetterD.cs,19,48,false,true⟩] (.sc (.sl 1 0 l.length)) [some ⟨l.map LetterD.cs,19,48,false,true⟩,some ⟨l.map LetterD.cs,19,48,true,true⟩]:=by
 refine qE Tryz.func121 Tryz.ntmps121 Tryz.results121 fun E hE=>?_
 exact qF (qI 0 1++qI 2 1)
theorem d2 (k:KnownD) (h0:k.keys.length<=1048576) (h1:k.tags.length<=1048576):aP 122 [.ag (k.cs 0)] (k.hp false) (.ag (k.cs 2)) (k.hp false++k.hp true):=by
 refine qE Tryz.func122 Tryz.ntmps122 Tryz.results122 fun E hE=>?_
 refine aO [(2,3)] [[0,1,4,5,2,3,6,7,8],[0,1,4,5,3,2,6,7,8]] (by kernel_rfl) (qC) (by kernel_rfl) ?_
 simp only [bm]
 refine⟨aa 400 ?_,aa 400 ?_⟩
 all_goals simp (disch:=omega) only [go_sem,seval]
 ·refine aQ (iK k.keys h0) (qI 0 1) ?_
  refine qG ?_
  exact qF (qI 0 2++qI 4 1++qI 6 1)
 refine aQ (iK k.keys h0) (qI 0 1) ?_
 refine qG ?_
 exact qF (qI 0 2++qI 5 2)
theorem fz (k:KnownD) (t:TagD) (h0:k.keys.length<=1048576) (h1:k.tags.length<=1048576):aP 137 [.ag (k.cs 0),.ag t.cs] (k.hp false) (.ag ((ez k t).cs 2)) (k.hp false++(ez k t).hp true):=by
 have hM:=ns k t h0 h1
 have ht:=AG (k:=k) (t:=t)
 have hf1:=za (k:=k) (t:=t)
 have hf2:=zb (k:=k) (t:=t)
 generalize ez k t=R at*
 refine qE Tryz.func137 Tryz.ntmps137 Tryz.results137 fun E hE=>?_
 refine qK (d2 k h0 h1) (qI 0 2) ?_
 refine qK (hM) (qI 0 2) ?_
 refine qB (fun b1=>?_) fun b1=>?_
 ·refine qB (fun b2=>?_) fun b2=>?_
  ·rw [ht b1 (by omega)]
   have e:=AF k.tags t
   simp only [TagD.cs] at e
   try simp (disch:=omega) only [go_sem,seval,e]
   refine qP (qI 0 2++qI 5 1++qI 9 1) ?_
   first|exact⟨⟩|simp
  rw [hf2 (by omega)]
  refine qX ?_
  exact qF (qI 0 2++qI 5 2)
 rw [hf1 b1]
 refine qX ?_
 exact qF (qI 0 2++qI 5 2)
theorem ge (w:WorldD) (hs:SmallW w):aP 64 [.ag (w.cs 0)] (w.hp false) (.ag (w.cs 21)) (w.hp false++w.hp true):=by
 have ha:=hs.a
 have hb:=hs.b
 refine qE Tryz.func64 Tryz.ntmps64 Tryz.results64 fun E hE=>?_
 refine qK (jF w.a (by have:=ha.own;omega) (by have:=ha.far;omega) (by have:=ha.subs;omega) (by have:=ha.halfs;omega) (by have:=ha.list;omega) (by have:=ha.done;omega) (by have:=ha.over;omega)) (qI 0 7) ?_
 refine qK (jF w.b (by have:=hb.own;omega) (by have:=hb.far;omega) (by have:=hb.subs;omega) (by have:=hb.halfs;omega) (by have:=hb.list;omega) (by have:=hb.done;omega) (by have:=hb.over;omega)) (qI 7 7) ?_
 refine qK (ch w.bag hs.bag) (qI 14 1) ?_
 refine qK (ch w.past hs.past) (qI 15 1) ?_
 refine qK (d2 w.known hs.keys hs.tags) (qI 16 2) ?_
 refine qK (iK w.nums hs.nums) (qI 18 1) ?_
 refine qK (iK w.answersA hs.ansA) (qI 19 1) ?_
 refine qK (iK w.answersB hs.ansB) (qI 20 1) ?_
 exact qF (qI 0 21++qI 23 21)
theorem d4 (w:WorldD) (e:EndD):aP 67 [.sc (.pt 28 0 0),.sc (.int .i64 1),.ag (e.cs 21)] (w.hp false++(e.hp false++[some ⟨[w.cs 0],61,44,true,false⟩])) (.tu [])
  (w.hp false++(e.hp false++[some ⟨[(eg { w with a:=e } 21 22 23 24 25 26 27 7 8 9 10 11 12 13 14 15 16 17 18 19 20)],61,44,true,false⟩])):=by
 refine gU Tryz.func67 Tryz.ntmps67 Tryz.results67 fun E hE=>?_
 exact dk (qI 0 29)
theorem e5 (w:WorldD) (e:EndD):aP 67 [.sc (.pt 28 0 0),.sc (.int .i64 2),.ag (e.cs 21)] (w.hp false++(e.hp false++[some ⟨[w.cs 0],61,44,true,false⟩])) (.tu [])
  (w.hp false++(e.hp false++[some ⟨[(eg { w with b:=e } 0 1 2 3 4 5 6 21 22 23 24 25 26 27 14 15 16 17 18 19 20)],61,44,true,false⟩])):=by
 refine gU Tryz.func67 Tryz.ntmps67 Tryz.results67 fun E hE=>?_
 exact dk (qI 0 29)
def c7 (x:LetterD):List Int:=[x.nonce,x.give,x.sgn]
theorem gl {l:List Int} {m:List Int} {k:Nat} (h:k < l.length):(l.drop k).foldl cP m=(l.drop (k+1)).foldl cP (cP m l[k]):=by
 rw [List.drop_eq_getElem_cons h];rfl
theorem m4 {l:List Int} {m:List Int} {k:Nat} (h:l.length<=k):(l.drop k).foldl cP m=m:=by
 rw [List.drop_eq_nil_of_le h];rfl
theorem dd (w:WorldD) (l:List LetterD) (hw:SmallP2 w) (hl:l.length<=1048576):aP 68 [.sc (.pt 21 0 0),.sc (.int .i64 1),.sc (.sl 22 0 l.length)]
  (gq w false++(gr w true++[some ⟨[w.cs 0],61,44,true,false⟩,some ⟨l.map LetterD.cs,19,48,false,true⟩])) (.tu [])
  (gq w false++((nH 7++[some ⟨[(eg (an 1 w l) 0 1 2 3 4 5 6 7 8 9 10 11 12 13 23 24 25 26 27 28 29)],61,44,true,false⟩,some ⟨l.map LetterD.cs,19,48,false,true⟩])++gr (an 1 w l) true)):=by
 obtain⟨R,hR⟩:∃ R,R=an 1 w l:=⟨_,rfl⟩
 rw [<-hR]
 have hl2:l.length<=9223372036854775807:=by omega
 refine kc Tryz.func68 (by kernel_rfl) rfl fun E hE=>ac 400 ?_
 simp (disch:=omega) only [Tryz.ntmps68,Tryz.results68,go_sem,seval]
 refine ju 23 hE (fun s (y:Nat×WorldD)=>s.at (qU [2,1,7,1,9,1,13,145]) [(12,.sc (.int .i64 (y.1:Nat)))] (gq w false++((nH 7++[some ⟨[(eg y.2 0 1 2 3 4 5 6 7 8 9 10 11 12 13 23 24 25 26 27 28 29)],61,44,true,false⟩,some ⟨l.map LetterD.cs,19,48,false,true⟩])++(gr y.2 true)))) (fun (y:Nat×WorldD)=>y.1<=l.length/\y.2.a=w.a/\y.2.b=w.b/\SmallP2 y.2/\R=an 1 y.2 (l.drop y.1)) (fun (y:Nat×WorldD)=>l.length - y.1) (0,w) (qI 0 23++qI 14 7) (qC) (⟨Nat.zero_le _,rfl,rfl,hw,hR⟩) (ab (by rfl) (by rfl) ?_) fun y hy N hN=>?_
 ·try simp (disch:=omega) only [go_sem,seval]
 obtain⟨i,u⟩:=y
 obtain⟨hi,ha,hb,hS,hu⟩:=hy
 obtain⟨ua,ub,bag,past,wA,wB,rA,rB,known,nums,nsA,nsB⟩:=u
 obtain⟨keys,tags⟩:=known
 dsimp only at hi ha hb hu
 subst ha hb
 have s1:=hS.bag
 have s2:=hS.past
 have s3:=hS.keys
 have s4:=hS.tags
 have s5:=hS.nums
 have s6:=hS.ansA
 have s7:=hS.ansB
 dsimp only at s1 s2 s3 s4 s5 s6 s7
 refine dL 21 400 ?_
 try simp (disch:=omega) only [go_sem,seval]
 split<;>rename_i h<;>(try simp only [decide_eq_true_eq,decide_eq_false_iff_not,Int.ofNat_lt] at h)
 rotate_left
 ·have e:i=l.length:=by omega
  subst e
  rw [oV (Nat.le_refl _)] at hu
  subst hu
  try simp (disch:=omega) only [go_sem,seval]
  refine fL (qI 0 30) (qC) _ (by simp only [go_sem];rfl) (by rfl) (by rfl) ?_
  simp (disch:=omega) only [go_sem,seval]
 rw [mV h] at hu
 generalize hx:l[i]=x at hu
 have hget:=aT (enc:=LetterD.cs) h
 rw [hx] at hget
 try simp (disch:=omega) only [go_sem,seval,hget]
 obtain⟨p1,hp1⟩:∃ p,p=mS past x:=⟨_,rfl⟩
 refine ec 23 hE (fun s=>s.at (qU [13,19]) [] (gq w false++((nH 7++[some ⟨[(eg (⟨w.a,w.b,bag,p1,wA,wB,rA,rB,⟨keys,tags⟩,nums,nsA,nsB⟩:WorldD) 0 1 2 3 4 5 6 7 8 9 10 11 12 13 23 24 25 26 27 28 29)],61,44,true,false⟩,some ⟨l.map LetterD.cs,19,48,false,true⟩])++(gr (⟨w.a,w.b,bag,p1,wA,wB,rA,rB,⟨keys,tags⟩,nums,nsA,nsB⟩:WorldD) true++[some ⟨[x.cs],19,48,true,false⟩])))) (qC) (by rfl) (fun N hN=>ac 401 ?_) (dL 34 400 ?_)
 ·try simp (disch:=omega) only [go_sem,seval]
  split<;>rename_i b1<;>(try simp only [beq_true,beq_false,Bool.not_eq_true',Bool.not_eq_false'] at b1)<;>simp (disch:=omega) only [go_sem,seval,b1]<;>(try simp only [decide_eq_true_eq,decide_eq_false_iff_not,beq_iff_eq,beq_eq_false_iff_ne,bne_iff_ne,bne_eq_false_iff_eq,ne_eq,Decidable.not_not,Bool.and_eq_true,Bool.and_eq_false_iff,Bool.or_eq_true,Bool.or_eq_false_iff,Int.ofNat_lt,Int.ofNat_le,Bool.not_eq_eq_eq_not,Bool.not_true,Bool.not_false] at b1)<;>try simp (disch:=omega) only [go_sem,seval]
  ·rw [vF (by omega)] at hp1
   subst hp1
   refine iu (qU [0,11]) (by kernel_rfl) (qC) (by kernel_rfl) (aa 400 ?_)
   simp (disch:=omega) only [go_sem,seval]
   refine⟨qC,dL 34 400 ?_⟩
   try simp (disch:=omega) only [go_sem,seval]
   refine⟨qC,hN _ (qI 0 24++qI 32 1++qI 25 6) (ab (by rfl) (by rfl) ?_)⟩
   simp (disch:=omega) only [go_sem,seval]
   try simp [LetterD.cs]
  rw [vG (by omega)] at hp1
  subst hp1
  try simp (disch:=omega) only [go_sem,seval]
  refine⟨qC,hN _ (qI 0 31) (ab (by rfl) (by rfl) ?_)⟩
  simp (disch:=omega) only [go_sem,seval]
 try simp (disch:=omega) only [go_sem,seval]
 obtain⟨q1,hq1⟩:∃ q,q=h_ nsA (ia 1 1 x) w.a.now:=⟨_,rfl⟩
 refine ec 23 hE (fun s=>s.at (qU [13,70]) [] (gq w false++((nH 7++[some ⟨[(eg (⟨w.a,w.b,bag,p1,wA,wB,rA,rB,⟨keys,tags⟩,nums,q1,nsB⟩:WorldD) 0 1 2 3 4 5 6 7 8 9 10 11 12 13 23 24 25 26 27 28 29)],61,44,true,false⟩,some ⟨l.map LetterD.cs,19,48,false,true⟩])++(gr (⟨w.a,w.b,bag,p1,wA,wB,rA,rB,⟨keys,tags⟩,nums,q1,nsB⟩:WorldD) true++[some ⟨[x.cs],19,48,true,false⟩])))) (qC) (by rfl) (fun N hN=>ac 401 ?_) (ac 400 ?_)
 ·try simp (disch:=omega) only [go_sem,seval]
  split<;>rename_i b2<;>(try simp only [beq_true,beq_false,Bool.not_eq_true',Bool.not_eq_false'] at b2)<;>simp (disch:=omega) only [go_sem,seval,b2]<;>(try simp only [decide_eq_true_eq,decide_eq_false_iff_not,beq_iff_eq,beq_eq_false_iff_ne,bne_iff_ne,bne_eq_false_iff_eq,ne_eq,Decidable.not_not,Bool.and_eq_true,Bool.and_eq_false_iff,Bool.or_eq_true,Bool.or_eq_false_iff,Int.ofNat_lt,Int.ofNat_le,Bool.not_eq_eq_eq_not,Bool.not_true,Bool.not_false] at b2)<;>try simp (disch:=omega) only [go_sem,seval]
  ·rw [zg b2] at hq1
   split<;>rename_i b3<;>(try simp only [beq_true,beq_false,Bool.not_eq_true',Bool.not_eq_false'] at b3)<;>simp (disch:=omega) only [go_sem,seval,b3]<;>(try simp only [decide_eq_true_eq,decide_eq_false_iff_not,beq_iff_eq,beq_eq_false_iff_ne,bne_iff_ne,bne_eq_false_iff_eq,ne_eq,Decidable.not_not,Bool.and_eq_true,Bool.and_eq_false_iff,Bool.or_eq_true,Bool.or_eq_false_iff,Int.ofNat_lt,Int.ofNat_le,Bool.not_eq_eq_eq_not,Bool.not_true,Bool.not_false] at b3)<;>try simp (disch:=omega) only [go_sem,seval]
   ·rw [ze (by omega)] at hq1
    subst hq1
    refine iu (qU [0,15]) (by kernel_rfl) (qC) (by kernel_rfl) (aa 400 ?_)
    simp (disch:=omega) only [go_sem,seval]
    refine⟨qC,ac 400 ?_⟩
    try simp (disch:=omega) only [go_sem,seval]
    refine⟨qC,hN _ (qI 0 28++qI 32 1++qI 29 2) (ab (by rfl) (by rfl) ?_)⟩
    simp (disch:=omega) only [go_sem,seval]
    try simp [aM]
   rw [zf (by omega)] at hq1
   subst hq1
   try simp (disch:=omega) only [go_sem,seval]
   refine⟨qC,hN _ (qI 0 31) (ab (by rfl) (by rfl) ?_)⟩
   simp (disch:=omega) only [go_sem,seval]
  rw [uu b2,gk] at hq1
  subst hq1
  try simp (disch:=omega) only [go_sem,seval]
  refine⟨qC,hN _ (qI 0 31) (ab (by rfl) (by rfl) ?_)⟩
  simp (disch:=omega) only [go_sem,seval]
 try simp (disch:=omega) only [go_sem,seval]
 refine bc (qC) (d1 x.to) [] qM (by rfl) (ac 400 ?_)
 simp (disch:=omega) only [go_sem,seval]
 have hoth:h_ nsB (ia 1 2 x) w.b.now=nsB:=by rw [qd (by decide),gk]
 split<;>rename_i b4<;>(try simp only [beq_true,beq_false,Bool.not_eq_true',Bool.not_eq_false'] at b4)<;>simp (disch:=omega) only [go_sem,seval,b4]<;>(try simp only [decide_eq_true_eq,decide_eq_false_iff_not,beq_iff_eq,beq_eq_false_iff_ne,bne_iff_ne,bne_eq_false_iff_eq,ne_eq,Decidable.not_not,Bool.and_eq_true,Bool.and_eq_false_iff,Bool.or_eq_true,Bool.or_eq_false_iff,Int.ofNat_lt,Int.ofNat_le,Bool.not_eq_eq_eq_not,Bool.not_true,Bool.not_false] at b4)<;>try simp (disch:=omega) only [go_sem,seval]
 ·have hK:=fz ⟨keys,tags⟩ x.tag (by dsimp only;omega) (by dsimp only;omega)
  have hky:(ez ⟨keys,tags⟩ x.tag).keys.length<=1048576:=by rw [i4];exact s3
  have hkt:(ez ⟨keys,tags⟩ x.tag).tags.length<=1048576:=mT s4
  obtain⟨kk,hkk⟩:∃ k,k=ez ⟨keys,tags⟩ x.tag:=⟨_,rfl⟩
  rw [<-hkk] at hK hky hkt
  obtain⟨k1,t1⟩:=kk
  dsimp only at hky hkt
  refine iu (qU [0,11]) (by kernel_rfl) (qC) (by kernel_rfl) (aa 400 ?_)
  simp (disch:=omega) only [go_sem,seval]
  refine it (qC) (hK) (qI 25 2) qM (by rfl) (by rfl) (aa 400 ?_)
  simp (disch:=omega) only [go_sem,seval]
  refine⟨qC,ac 400 ?_⟩
  try simp (disch:=omega) only [go_sem,seval]
  obtain⟨n1,hn1⟩:∃ n,n=(c7 x).foldl cP nums:=⟨_,rfl⟩
  have hn1l:n1.length<=1048576:=by rw [hn1];exact gj (gj (gj s5))
  refine ju 23 hE (fun s (z:Nat×List Int)=>s.at (qU [2,1,9,1,14,7,22,12,35,9,45,23,69,14,84,20,107,33,141,17]) [(106,.sc (.int .i64 (z.1:Nat))),(104,.sc (.sl 31 0 3))] (gq w false++((nH 7++[some ⟨[(eg (⟨w.a,w.b,bag,p1,wA,wB,rA,rB,⟨k1,t1⟩,z.2,q1,nsB⟩:WorldD) 0 1 2 3 4 5 6 7 8 9 10 11 12 13 23 24 25 26 27 28 29)],61,44,true,false⟩,some ⟨l.map LetterD.cs,19,48,false,true⟩])++(gr (⟨w.a,w.b,bag,p1,wA,wB,rA,rB,⟨k1,t1⟩,z.2,q1,nsB⟩:WorldD) true++[some ⟨[x.cs],19,48,true,false⟩]++[some ⟨[[.int .i64 x.nonce],[.int .i64 x.give],[.int .i64 x.sgn]],1,3,true,true⟩])))) (fun (z:Nat×List Int)=>z.1<=3/\z.2.length<=1048576/\n1=((c7 x).drop z.1).foldl cP z.2) (fun (z:Nat×List Int)=>3 - z.1) (0,nums) (qI 0 25++qI 31 2++qI 27 4++qI 33 1) (qC) (⟨Nat.zero_le _,s5,hn1⟩) (ab (by rfl) (by rfl) ?_) fun z hz N2 hN2=>?_
  ·try simp (disch:=omega) only [go_sem,seval]
  obtain⟨j,m⟩:=z
  obtain⟨hj,hm,hn⟩:=hz
  dsimp only at hj hm hn
  refine ac 400 ?_
  try simp (disch:=omega) only [go_sem,seval]
  split<;>rename_i h5<;>(try simp only [decide_eq_true_eq,decide_eq_false_iff_not,Int.ofNat_lt] at h5)
  rotate_left
  ·have e:j=3:=by omega
   subst e
   rw [m4 (by simp [c7])] at hn
   subst hn
   try simp (disch:=omega) only [go_sem,seval]
   refine⟨qC,hN _ (i+1,(⟨w.a,w.b,bag,p1,wA,wB,rA,rB,⟨k1,t1⟩,n1,q1,nsB⟩:WorldD)) (qI 0 30) (⟨by omega,rfl,rfl,?_,?_⟩) (by (try dsimp only);omega) (ab (by rfl) (by rfl) ?_)⟩
   ·have e:cn 1 (⟨w.a,w.b,bag,past,wA,wB,rA,rB,⟨keys,tags⟩,nums,nsA,nsB⟩:WorldD) x=(⟨w.a,w.b,bag,p1,wA,wB,rA,rB,⟨k1,t1⟩,n1,q1,nsB⟩:WorldD):=by
     rw [cn,if_pos b4,vH,mU]
     dsimp only
     rw [<-hkk,hoth,<-hp1,<-hq1,hn1]
     rfl
    rw [<-e]
    exact eG hS
   ·have e:cn 1 (⟨w.a,w.b,bag,past,wA,wB,rA,rB,⟨keys,tags⟩,nums,nsA,nsB⟩:WorldD) x=(⟨w.a,w.b,bag,p1,wA,wB,rA,rB,⟨k1,t1⟩,n1,q1,nsB⟩:WorldD):=by
     rw [cn,if_pos b4,vH,mU]
     dsimp only
     rw [<-hkk,hoth,<-hp1,<-hq1,hn1]
     rfl
    rw [<-e]
    exact hu
   try simp (disch:=omega) only [go_sem,seval]
  have h6:j < (c7 x).length:=by simp only [c7,List.length_cons,List.length_nil];omega
  rw [gl h6] at hn
  generalize hv:(c7 x)[j]=v at hn
  have hg3:([[.int .i64 x.nonce],[.int .i64 x.give],[.int .i64 x.sgn]]:List (List Sc))[j]? =some (aM v):=by
   rw [<-hv]
   rw [show ([[.int .i64 x.nonce],[.int .i64 x.give],[.int .i64 x.sgn]]:List (List Sc))=(c7 x).map aM from rfl]
   exact aT h6
  simp only [aM] at hg3
  have hH:=ct m v hm
  have ht:=BW (l:=m) (n:=v)
  have hf1:=AH (l:=m) (n:=v)
  have hf2:=AI (l:=m) (n:=v)
  have hf3:=AJ (l:=m) (n:=v)
  have hvl:(cP m v).length<=1048576:=gj hm
  generalize cP m v=m1 at*
  try simp (disch:=omega) only [go_sem,seval,hg3]
  split<;>rename_i c1<;>(try simp only [beq_true,beq_false,Bool.not_eq_true',Bool.not_eq_false'] at c1)<;>simp (disch:=omega) only [go_sem,seval,c1]<;>(try simp only [decide_eq_true_eq,decide_eq_false_iff_not,beq_iff_eq,beq_eq_false_iff_ne,bne_iff_ne,bne_eq_false_iff_eq,ne_eq,Decidable.not_not,Bool.and_eq_true,Bool.and_eq_false_iff,Bool.or_eq_true,Bool.or_eq_false_iff,Int.ofNat_lt,Int.ofNat_le,Bool.not_eq_eq_eq_not,Bool.not_true,Bool.not_false] at c1)<;>try simp (disch:=omega) only [go_sem,seval]
  ·refine bc (qC) (hH) (qI 27 1) qM (by rfl) (ac 400 ?_)
   simp (disch:=omega) only [go_sem,seval]
   split<;>rename_i c2<;>(try simp only [beq_true,beq_false,Bool.not_eq_true',Bool.not_eq_false'] at c2)<;>simp (disch:=omega) only [go_sem,seval,c2]<;>(try simp only [decide_eq_true_eq,decide_eq_false_iff_not,beq_iff_eq,beq_eq_false_iff_ne,bne_iff_ne,bne_eq_false_iff_eq,ne_eq,Decidable.not_not,Bool.and_eq_true,Bool.and_eq_false_iff,Bool.or_eq_true,Bool.or_eq_false_iff,Int.ofNat_lt,Int.ofNat_le,Bool.not_eq_eq_eq_not,Bool.not_true,Bool.not_false] at c2)<;>try simp (disch:=omega) only [go_sem,seval]
   ·split<;>rename_i c3<;>(try simp only [beq_true,beq_false,Bool.not_eq_true',Bool.not_eq_false'] at c3)<;>simp (disch:=omega) only [go_sem,seval,c3]<;>(try simp only [decide_eq_true_eq,decide_eq_false_iff_not,beq_iff_eq,beq_eq_false_iff_ne,bne_iff_ne,bne_eq_false_iff_eq,ne_eq,Decidable.not_not,Bool.and_eq_true,Bool.and_eq_false_iff,Bool.or_eq_true,Bool.or_eq_false_iff,Int.ofNat_lt,Int.ofNat_le,Bool.not_eq_eq_eq_not,Bool.not_true,Bool.not_false] at c3)<;>try simp (disch:=omega) only [go_sem,seval]
    ·have e:=ht c1 c2 (by omega)
     subst e
     try simp (disch:=omega) only [go_sem,seval]
     refine⟨qC,hN2 _ (j+1,m++[v]) (qI 0 27++qI 33 1++qI 28 4) (by (try dsimp only);exact⟨by omega,hvl,hn⟩) (by (try dsimp only);omega) (ab (by rfl) (by rfl) ?_)⟩
     try simp (disch:=omega) only [go_sem,seval]
     try simp [aM]
    have e:=hf3 (by omega)
    subst e
    try simp (disch:=omega) only [go_sem,seval]
    refine⟨qC,hN2 _ (j+1,m1) (qI 0 32) (by (try dsimp only);exact⟨by omega,hm,hn⟩) (by (try dsimp only);omega) (ab (by rfl) (by rfl) ?_)⟩
    try simp (disch:=omega) only [go_sem,seval]
   have e:=hf2 c2
   subst e
   try simp (disch:=omega) only [go_sem,seval]
   refine⟨qC,hN2 _ (j+1,m1) (qI 0 32) (by (try dsimp only);exact⟨by omega,hm,hn⟩) (by (try dsimp only);omega) (ab (by rfl) (by rfl) ?_)⟩
   try simp (disch:=omega) only [go_sem,seval]
  have e:=hf1 c1
  subst e
  try simp (disch:=omega) only [go_sem,seval]
  refine⟨qC,hN2 _ (j+1,m1) (qI 0 32) (by (try dsimp only);exact⟨by omega,hm,hn⟩) (by (try dsimp only);omega) (ab (by rfl) (by rfl) ?_)⟩
  try simp (disch:=omega) only [go_sem,seval]
 obtain⟨g1,hg1⟩:∃ g,g=ut bag x:=⟨_,rfl⟩
 have e:cn 1 (⟨w.a,w.b,bag,past,wA,wB,rA,rB,⟨keys,tags⟩,nums,nsA,nsB⟩:WorldD) x=(⟨w.a,w.b,g1,p1,wA,wB,rA,rB,⟨keys,tags⟩,nums,q1,nsB⟩:WorldD):=by
  rw [cn,if_neg b4,mU]
  dsimp only
  rw [hoth,<-hp1,<-hq1,<-hg1]
 rw [e] at hu
 have hS1:=eG (side:=1) (x:=x) hS
 rw [e] at hS1
 split<;>rename_i b5<;>(try simp only [beq_true,beq_false,Bool.not_eq_true',Bool.not_eq_false'] at b5)<;>simp (disch:=omega) only [go_sem,seval,b5]<;>(try simp only [decide_eq_true_eq,decide_eq_false_iff_not,beq_iff_eq,beq_eq_false_iff_ne,bne_iff_ne,bne_eq_false_iff_eq,ne_eq,Decidable.not_not,Bool.and_eq_true,Bool.and_eq_false_iff,Bool.or_eq_true,Bool.or_eq_false_iff,Int.ofNat_lt,Int.ofNat_le,Bool.not_eq_eq_eq_not,Bool.not_true,Bool.not_false] at b5)<;>try simp (disch:=omega) only [go_sem,seval]
 ·rw [zc (by omega)] at hg1
  subst hg1
  refine iu (qU [0,11]) (by kernel_rfl) (qC) (by kernel_rfl) (aa 400 ?_)
  simp (disch:=omega) only [go_sem,seval]
  refine⟨qC,ac 400 ?_⟩
  try simp (disch:=omega) only [go_sem,seval]
  refine⟨qC,hN _ (i+1,(⟨w.a,w.b,(bag++[x]),p1,wA,wB,rA,rB,⟨keys,tags⟩,nums,q1,nsB⟩:WorldD)) (qI 0 23++qI 32 1++qI 24 6) (by (try dsimp only);exact⟨by omega,rfl,rfl,hS1,hu⟩) (by (try dsimp only);omega) (ab (by rfl) (by rfl) ?_)⟩
  try simp (disch:=omega) only [go_sem,seval]
  try simp [LetterD.cs]
 rw [zd (by omega)] at hg1
 subst hg1
 try simp (disch:=omega) only [go_sem,seval]
 refine⟨qC,hN _ (i+1,(⟨w.a,w.b,g1,p1,wA,wB,rA,rB,⟨keys,tags⟩,nums,q1,nsB⟩:WorldD)) (qI 0 30) (by (try dsimp only);exact⟨by omega,rfl,rfl,hS1,hu⟩) (by (try dsimp only);omega) (ab (by rfl) (by rfl) ?_)⟩
 try simp (disch:=omega) only [go_sem,seval]
theorem ea (w:WorldD) (l:List LetterD) (hw:SmallP2 w) (hl:l.length<=1048576):aP 68 [.sc (.pt 21 0 0),.sc (.int .i64 2),.sc (.sl 22 0 l.length)]
  (gq w false++(gr w true++[some ⟨[w.cs 0],61,44,true,false⟩,some ⟨l.map LetterD.cs,19,48,false,true⟩])) (.tu [])
  (gq w false++((nH 7++[some ⟨[(eg (an 2 w l) 0 1 2 3 4 5 6 7 8 9 10 11 12 13 23 24 25 26 27 28 29)],61,44,true,false⟩,some ⟨l.map LetterD.cs,19,48,false,true⟩])++gr (an 2 w l) true)):=by
 obtain⟨R,hR⟩:∃ R,R=an 2 w l:=⟨_,rfl⟩
 rw [<-hR]
 have hl2:l.length<=9223372036854775807:=by omega
 refine kc Tryz.func68 (by kernel_rfl) rfl fun E hE=>ac 400 ?_
 simp (disch:=omega) only [Tryz.ntmps68,Tryz.results68,go_sem,seval]
 refine ju 23 hE (fun s (y:Nat×WorldD)=>s.at (qU [2,1,7,1,9,1,13,145]) [(12,.sc (.int .i64 (y.1:Nat)))] (gq w false++((nH 7++[some ⟨[(eg y.2 0 1 2 3 4 5 6 7 8 9 10 11 12 13 23 24 25 26 27 28 29)],61,44,true,false⟩,some ⟨l.map LetterD.cs,19,48,false,true⟩])++(gr y.2 true)))) (fun (y:Nat×WorldD)=>y.1<=l.length/\y.2.a=w.a/\y.2.b=w.b/\SmallP2 y.2/\R=an 2 y.2 (l.drop y.1)) (fun (y:Nat×WorldD)=>l.length - y.1) (0,w) (qI 0 23++qI 14 7) (qC) (⟨Nat.zero_le _,rfl,rfl,hw,hR⟩) (ab (by rfl) (by rfl) ?_) fun y hy N hN=>?_
 ·try simp (disch:=omega) only [go_sem,seval]
 obtain⟨i,u⟩:=y
 obtain⟨hi,ha,hb,hS,hu⟩:=hy
 obtain⟨ua,ub,bag,past,wA,wB,rA,rB,known,nums,nsA,nsB⟩:=u
 obtain⟨keys,tags⟩:=known
 dsimp only at hi ha hb hu
 subst ha hb
 have s1:=hS.bag
 have s2:=hS.past
 have s3:=hS.keys
 have s4:=hS.tags
 have s5:=hS.nums
 have s6:=hS.ansA
 have s7:=hS.ansB
 dsimp only at s1 s2 s3 s4 s5 s6 s7
 refine dL 21 400 ?_
 try simp (disch:=omega) only [go_sem,seval]
 split<;>rename_i h<;>(try simp only [decide_eq_true_eq,decide_eq_false_iff_not,Int.ofNat_lt] at h)
 rotate_left
 ·have e:i=l.length:=by omega
  subst e
  rw [oV (Nat.le_refl _)] at hu
  subst hu
  try simp (disch:=omega) only [go_sem,seval]
  refine fL (qI 0 30) (qC) _ (by simp only [go_sem];rfl) (by rfl) (by rfl) ?_
  simp (disch:=omega) only [go_sem,seval]
 rw [mV h] at hu
 generalize hx:l[i]=x at hu
 have hget:=aT (enc:=LetterD.cs) h
 rw [hx] at hget
 try simp (disch:=omega) only [go_sem,seval,hget]
 obtain⟨p1,hp1⟩:∃ p,p=mS past x:=⟨_,rfl⟩
 refine ec 23 hE (fun s=>s.at (qU [13,19]) [] (gq w false++((nH 7++[some ⟨[(eg (⟨w.a,w.b,bag,p1,wA,wB,rA,rB,⟨keys,tags⟩,nums,nsA,nsB⟩:WorldD) 0 1 2 3 4 5 6 7 8 9 10 11 12 13 23 24 25 26 27 28 29)],61,44,true,false⟩,some ⟨l.map LetterD.cs,19,48,false,true⟩])++(gr (⟨w.a,w.b,bag,p1,wA,wB,rA,rB,⟨keys,tags⟩,nums,nsA,nsB⟩:WorldD) true++[some ⟨[x.cs],19,48,true,false⟩])))) (qC) (by rfl) (fun N hN=>ac 401 ?_) (dL 34 400 ?_)
 ·try simp (disch:=omega) only [go_sem,seval]
  split<;>rename_i b1<;>(try simp only [beq_true,beq_false,Bool.not_eq_true',Bool.not_eq_false'] at b1)<;>simp (disch:=omega) only [go_sem,seval,b1]<;>(try simp only [decide_eq_true_eq,decide_eq_false_iff_not,beq_iff_eq,beq_eq_false_iff_ne,bne_iff_ne,bne_eq_false_iff_eq,ne_eq,Decidable.not_not,Bool.and_eq_true,Bool.and_eq_false_iff,Bool.or_eq_true,Bool.or_eq_false_iff,Int.ofNat_lt,Int.ofNat_le,Bool.not_eq_eq_eq_not,Bool.not_true,Bool.not_false] at b1)<;>try simp (disch:=omega) only [go_sem,seval]
  ·rw [vF (by omega)] at hp1
   subst hp1
   refine iu (qU [0,11]) (by kernel_rfl) (qC) (by kernel_rfl) (aa 400 ?_)
   simp (disch:=omega) only [go_sem,seval]
   refine⟨qC,dL 34 400 ?_⟩
   try simp (disch:=omega) only [go_sem,seval]
   refine⟨qC,hN _ (qI 0 24++qI 32 1++qI 25 6) (ab (by rfl) (by rfl) ?_)⟩
   simp (disch:=omega) only [go_sem,seval]
   try simp [LetterD.cs]
  rw [vG (by omega)] at hp1
  subst hp1
  try simp (disch:=omega) only [go_sem,seval]
  refine⟨qC,hN _ (qI 0 31) (ab (by rfl) (by rfl) ?_)⟩
  simp (disch:=omega) only [go_sem,seval]
 try simp (disch:=omega) only [go_sem,seval]
 obtain⟨q1,hq1⟩:∃ q,q=h_ nsB (ia 2 2 x) w.b.now:=⟨_,rfl⟩
 refine ec 23 hE (fun s=>s.at (qU [13,70]) [] (gq w false++((nH 7++[some ⟨[(eg (⟨w.a,w.b,bag,p1,wA,wB,rA,rB,⟨keys,tags⟩,nums,nsA,q1⟩:WorldD) 0 1 2 3 4 5 6 7 8 9 10 11 12 13 23 24 25 26 27 28 29)],61,44,true,false⟩,some ⟨l.map LetterD.cs,19,48,false,true⟩])++(gr (⟨w.a,w.b,bag,p1,wA,wB,rA,rB,⟨keys,tags⟩,nums,nsA,q1⟩:WorldD) true++[some ⟨[x.cs],19,48,true,false⟩])))) (qC) (by rfl) (fun N hN=>ac 401 ?_) (ac 400 ?_)
 ·try simp (disch:=omega) only [go_sem,seval]
  split<;>rename_i b2<;>(try simp only [beq_true,beq_false,Bool.not_eq_true',Bool.not_eq_false'] at b2)<;>simp (disch:=omega) only [go_sem,seval,b2]<;>(try simp only [decide_eq_true_eq,decide_eq_false_iff_not,beq_iff_eq,beq_eq_false_iff_ne,bne_iff_ne,bne_eq_false_iff_eq,ne_eq,Decidable.not_not,Bool.and_eq_true,Bool.and_eq_false_iff,Bool.or_eq_true,Bool.or_eq_false_iff,Int.ofNat_lt,Int.ofNat_le,Bool.not_eq_eq_eq_not,Bool.not_true,Bool.not_false] at b2)<;>try simp (disch:=omega) only [go_sem,seval]
  ·rw [zg b2] at hq1
   split<;>rename_i b3<;>(try simp only [beq_true,beq_false,Bool.not_eq_true',Bool.not_eq_false'] at b3)<;>simp (disch:=omega) only [go_sem,seval,b3]<;>(try simp only [decide_eq_true_eq,decide_eq_false_iff_not,beq_iff_eq,beq_eq_false_iff_ne,bne_iff_ne,bne_eq_false_iff_eq,ne_eq,Decidable.not_not,Bool.and_eq_true,Bool.and_eq_false_iff,Bool.or_eq_true,Bool.or_eq_false_iff,Int.ofNat_lt,Int.ofNat_le,Bool.not_eq_eq_eq_not,Bool.not_true,Bool.not_false] at b3)<;>try simp (disch:=omega) only [go_sem,seval]
   ·rw [ze (by omega)] at hq1
    subst hq1
    refine iu (qU [0,15]) (by kernel_rfl) (qC) (by kernel_rfl) (aa 400 ?_)
    simp (disch:=omega) only [go_sem,seval]
    refine⟨qC,ac 400 ?_⟩
    try simp (disch:=omega) only [go_sem,seval]
    refine⟨qC,hN _ (qI 0 29++qI 32 1++qI 30 1) (ab (by rfl) (by rfl) ?_)⟩
    simp (disch:=omega) only [go_sem,seval]
    try simp [aM]
   rw [zf (by omega)] at hq1
   subst hq1
   try simp (disch:=omega) only [go_sem,seval]
   refine⟨qC,hN _ (qI 0 31) (ab (by rfl) (by rfl) ?_)⟩
   simp (disch:=omega) only [go_sem,seval]
  rw [uu b2,gk] at hq1
  subst hq1
  try simp (disch:=omega) only [go_sem,seval]
  refine⟨qC,hN _ (qI 0 31) (ab (by rfl) (by rfl) ?_)⟩
  simp (disch:=omega) only [go_sem,seval]
 try simp (disch:=omega) only [go_sem,seval]
 refine bc (qC) (d1 x.to) [] qM (by rfl) (ac 400 ?_)
 simp (disch:=omega) only [go_sem,seval]
 have hoth:h_ nsA (ia 2 1 x) w.a.now=nsA:=by rw [qd (by decide),gk]
 split<;>rename_i b4<;>(try simp only [beq_true,beq_false,Bool.not_eq_true',Bool.not_eq_false'] at b4)<;>simp (disch:=omega) only [go_sem,seval,b4]<;>(try simp only [decide_eq_true_eq,decide_eq_false_iff_not,beq_iff_eq,beq_eq_false_iff_ne,bne_iff_ne,bne_eq_false_iff_eq,ne_eq,Decidable.not_not,Bool.and_eq_true,Bool.and_eq_false_iff,Bool.or_eq_true,Bool.or_eq_false_iff,Int.ofNat_lt,Int.ofNat_le,Bool.not_eq_eq_eq_not,Bool.not_true,Bool.not_false] at b4)<;>try simp (disch:=omega) only [go_sem,seval]
 ·have hK:=fz ⟨keys,tags⟩ x.tag (by dsimp only;omega) (by dsimp only;omega)
  have hky:(ez ⟨keys,tags⟩ x.tag).keys.length<=1048576:=by rw [i4];exact s3
  have hkt:(ez ⟨keys,tags⟩ x.tag).tags.length<=1048576:=mT s4
  obtain⟨kk,hkk⟩:∃ k,k=ez ⟨keys,tags⟩ x.tag:=⟨_,rfl⟩
  rw [<-hkk] at hK hky hkt
  obtain⟨k1,t1⟩:=kk
  dsimp only at hky hkt
  refine iu (qU [0,11]) (by kernel_rfl) (qC) (by kernel_rfl) (aa 400 ?_)
  simp (disch:=omega) only [go_sem,seval]
  refine it (qC) (hK) (qI 25 2) qM (by rfl) (by rfl) (aa 400 ?_)
  simp (disch:=omega) only [go_sem,seval]
  refine⟨qC,ac 400 ?_⟩
  try simp (disch:=omega) only [go_sem,seval]
  obtain⟨n1,hn1⟩:∃ n,n=(c7 x).foldl cP nums:=⟨_,rfl⟩
  have hn1l:n1.length<=1048576:=by rw [hn1];exact gj (gj (gj s5))
  refine ju 23 hE (fun s (z:Nat×List Int)=>s.at (qU [2,1,9,1,14,7,22,12,35,9,45,23,69,14,84,20,107,33,141,17]) [(106,.sc (.int .i64 (z.1:Nat))),(104,.sc (.sl 31 0 3))] (gq w false++((nH 7++[some ⟨[(eg (⟨w.a,w.b,bag,p1,wA,wB,rA,rB,⟨k1,t1⟩,z.2,nsA,q1⟩:WorldD) 0 1 2 3 4 5 6 7 8 9 10 11 12 13 23 24 25 26 27 28 29)],61,44,true,false⟩,some ⟨l.map LetterD.cs,19,48,false,true⟩])++(gr (⟨w.a,w.b,bag,p1,wA,wB,rA,rB,⟨k1,t1⟩,z.2,nsA,q1⟩:WorldD) true++[some ⟨[x.cs],19,48,true,false⟩]++[some ⟨[[.int .i64 x.nonce],[.int .i64 x.give],[.int .i64 x.sgn]],1,3,true,true⟩])))) (fun (z:Nat×List Int)=>z.1<=3/\z.2.length<=1048576/\n1=((c7 x).drop z.1).foldl cP z.2) (fun (z:Nat×List Int)=>3 - z.1) (0,nums) (qI 0 25++qI 31 2++qI 27 4++qI 33 1) (qC) (⟨Nat.zero_le _,s5,hn1⟩) (ab (by rfl) (by rfl) ?_) fun z hz N2 hN2=>?_
  ·try simp (disch:=omega) only [go_sem,seval]
  obtain⟨j,m⟩:=z
  obtain⟨hj,hm,hn⟩:=hz
  dsimp only at hj hm hn
  refine ac 400 ?_
  try simp (disch:=omega) only [go_sem,seval]
  split<;>rename_i h5<;>(try simp only [decide_eq_true_eq,decide_eq_false_iff_not,Int.ofNat_lt] at h5)
  rotate_left
  ·have e:j=3:=by omega
   subst e
   rw [m4 (by simp [c7])] at hn
   subst hn
   try simp (disch:=omega) only [go_sem,seval]
   refine⟨qC,hN _ (i+1,(⟨w.a,w.b,bag,p1,wA,wB,rA,rB,⟨k1,t1⟩,n1,nsA,q1⟩:WorldD)) (qI 0 30) (⟨by omega,rfl,rfl,?_,?_⟩) (by (try dsimp only);omega) (ab (by rfl) (by rfl) ?_)⟩
   ·have e:cn 2 (⟨w.a,w.b,bag,past,wA,wB,rA,rB,⟨keys,tags⟩,nums,nsA,nsB⟩:WorldD) x=(⟨w.a,w.b,bag,p1,wA,wB,rA,rB,⟨k1,t1⟩,n1,nsA,q1⟩:WorldD):=by
     rw [cn,if_pos b4,vH,mU]
     dsimp only
     rw [<-hkk,hoth,<-hp1,<-hq1,hn1]
     rfl
    rw [<-e]
    exact eG hS
   ·have e:cn 2 (⟨w.a,w.b,bag,past,wA,wB,rA,rB,⟨keys,tags⟩,nums,nsA,nsB⟩:WorldD) x=(⟨w.a,w.b,bag,p1,wA,wB,rA,rB,⟨k1,t1⟩,n1,nsA,q1⟩:WorldD):=by
     rw [cn,if_pos b4,vH,mU]
     dsimp only
     rw [<-hkk,hoth,<-hp1,<-hq1,hn1]
     rfl
    rw [<-e]
    exact hu
   try simp (disch:=omega) only [go_sem,seval]
  have h6:j < (c7 x).length:=by simp only [c7,List.length_cons,List.length_nil];omega
  rw [gl h6] at hn
  generalize hv:(c7 x)[j]=v at hn
  have hg3:([[.int .i64 x.nonce],[.int .i64 x.give],[.int .i64 x.sgn]]:List (List Sc))[j]? =some (aM v):=by
   rw [<-hv]
   rw [show ([[.int .i64 x.nonce],[.int .i64 x.give],[.int .i64 x.sgn]]:List (List Sc))=(c7 x).map aM from rfl]
   exact aT h6
  simp only [aM] at hg3
  have hH:=ct m v hm
  have ht:=BW (l:=m) (n:=v)
  have hf1:=AH (l:=m) (n:=v)
  have hf2:=AI (l:=m) (n:=v)
  have hf3:=AJ (l:=m) (n:=v)
  have hvl:(cP m v).length<=1048576:=gj hm
  generalize cP m v=m1 at*
  try simp (disch:=omega) only [go_sem,seval,hg3]
  split<;>rename_i c1<;>(try simp only [beq_true,beq_false,Bool.not_eq_true',Bool.not_eq_false'] at c1)<;>simp (disch:=omega) only [go_sem,seval,c1]<;>(try simp only [decide_eq_true_eq,decide_eq_false_iff_not,beq_iff_eq,beq_eq_false_iff_ne,bne_iff_ne,bne_eq_false_iff_eq,ne_eq,Decidable.not_not,Bool.and_eq_true,Bool.and_eq_false_iff,Bool.or_eq_true,Bool.or_eq_false_iff,Int.ofNat_lt,Int.ofNat_le,Bool.not_eq_eq_eq_not,Bool.not_true,Bool.not_false] at c1)<;>try simp (disch:=omega) only [go_sem,seval]
  ·refine bc (qC) (hH) (qI 27 1) qM (by rfl) (ac 400 ?_)
   simp (disch:=omega) only [go_sem,seval]
   split<;>rename_i c2<;>(try simp only [beq_true,beq_false,Bool.not_eq_true',Bool.not_eq_false'] at c2)<;>simp (disch:=omega) only [go_sem,seval,c2]<;>(try simp only [decide_eq_true_eq,decide_eq_false_iff_not,beq_iff_eq,beq_eq_false_iff_ne,bne_iff_ne,bne_eq_false_iff_eq,ne_eq,Decidable.not_not,Bool.and_eq_true,Bool.and_eq_false_iff,Bool.or_eq_true,Bool.or_eq_false_iff,Int.ofNat_lt,Int.ofNat_le,Bool.not_eq_eq_eq_not,Bool.not_true,Bool.not_false] at c2)<;>try simp (disch:=omega) only [go_sem,seval]
   ·split<;>rename_i c3<;>(try simp only [beq_true,beq_false,Bool.not_eq_true',Bool.not_eq_false'] at c3)<;>simp (disch:=omega) only [go_sem,seval,c3]<;>(try simp only [decide_eq_true_eq,decide_eq_false_iff_not,beq_iff_eq,beq_eq_false_iff_ne,bne_iff_ne,bne_eq_false_iff_eq,ne_eq,Decidable.not_not,Bool.and_eq_true,Bool.and_eq_false_iff,Bool.or_eq_true,Bool.or_eq_false_iff,Int.ofNat_lt,Int.ofNat_le,Bool.not_eq_eq_eq_not,Bool.not_true,Bool.not_false] at c3)<;>try simp (disch:=omega) only [go_sem,seval]
    ·have e:=ht c1 c2 (by omega)
     subst e
     try simp (disch:=omega) only [go_sem,seval]
     refine⟨qC,hN2 _ (j+1,m++[v]) (qI 0 27++qI 33 1++qI 28 4) (by (try dsimp only);exact⟨by omega,hvl,hn⟩) (by (try dsimp only);omega) (ab (by rfl) (by rfl) ?_)⟩
     try simp (disch:=omega) only [go_sem,seval]
     try simp [aM]
    have e:=hf3 (by omega)
    subst e
    try simp (disch:=omega) only [go_sem,seval]
    refine⟨qC,hN2 _ (j+1,m1) (qI 0 32) (by (try dsimp only);exact⟨by omega,hm,hn⟩) (by (try dsimp only);omega) (ab (by rfl) (by rfl) ?_)⟩
    try simp (disch:=omega) only [go_sem,seval]
   have e:=hf2 c2
   subst e
   try simp (disch:=omega) only [go_sem,seval]
   refine⟨qC,hN2 _ (j+1,m1) (qI 0 32) (by (try dsimp only);exact⟨by omega,hm,hn⟩) (by (try dsimp only);omega) (ab (by rfl) (by rfl) ?_)⟩
   try simp (disch:=omega) only [go_sem,seval]
  have e:=hf1 c1
  subst e
  try simp (disch:=omega) only [go_sem,seval]
  refine⟨qC,hN2 _ (j+1,m1) (qI 0 32) (by (try dsimp only);exact⟨by omega,hm,hn⟩) (by (try dsimp only);omega) (ab (by rfl) (by rfl) ?_)⟩
  try simp (disch:=omega) only [go_sem,seval]
 obtain⟨g1,hg1⟩:∃ g,g=ut bag x:=⟨_,rfl⟩
 have e:cn 2 (⟨w.a,w.b,bag,past,wA,wB,rA,rB,⟨keys,tags⟩,nums,nsA,nsB⟩:WorldD) x=(⟨w.a,w.b,g1,p1,wA,wB,rA,rB,⟨keys,tags⟩,nums,nsA,q1⟩:WorldD):=by
  rw [cn,if_neg b4,mU]
  dsimp only
  rw [hoth,<-hp1,<-hq1,<-hg1]
 rw [e] at hu
 have hS1:=eG (side:=2) (x:=x) hS
 rw [e] at hS1
 split<;>rename_i b5<;>(try simp only [beq_true,beq_false,Bool.not_eq_true',Bool.not_eq_false'] at b5)<;>simp (disch:=omega) only [go_sem,seval,b5]<;>(try simp only [decide_eq_true_eq,decide_eq_false_iff_not,beq_iff_eq,beq_eq_false_iff_ne,bne_iff_ne,bne_eq_false_iff_eq,ne_eq,Decidable.not_not,Bool.and_eq_true,Bool.and_eq_false_iff,Bool.or_eq_true,Bool.or_eq_false_iff,Int.ofNat_lt,Int.ofNat_le,Bool.not_eq_eq_eq_not,Bool.not_true,Bool.not_false] at b5)<;>try simp (disch:=omega) only [go_sem,seval]
 ·rw [zc (by omega)] at hg1
  subst hg1
  refine iu (qU [0,11]) (by kernel_rfl) (qC) (by kernel_rfl) (aa 400 ?_)
  simp (disch:=omega) only [go_sem,seval]
  refine⟨qC,ac 400 ?_⟩
  try simp (disch:=omega) only [go_sem,seval]
  refine⟨qC,hN _ (i+1,(⟨w.a,w.b,(bag++[x]),p1,wA,wB,rA,rB,⟨keys,tags⟩,nums,nsA,q1⟩:WorldD)) (qI 0 23++qI 32 1++qI 24 6) (by (try dsimp only);exact⟨by omega,rfl,rfl,hS1,hu⟩) (by (try dsimp only);omega) (ab (by rfl) (by rfl) ?_)⟩
  try simp (disch:=omega) only [go_sem,seval]
  try simp [LetterD.cs]
 rw [zd (by omega)] at hg1
 subst hg1
 try simp (disch:=omega) only [go_sem,seval]
 refine⟨qC,hN _ (i+1,(⟨w.a,w.b,g1,p1,wA,wB,rA,rB,⟨keys,tags⟩,nums,nsA,q1⟩:WorldD)) (qI 0 30) (by (try dsimp only);exact⟨by omega,rfl,rfl,hS1,hu⟩) (by (try dsimp only);omega) (ab (by rfl) (by rfl) ?_)⟩
 try simp (disch:=omega) only [go_sem,seval]
end
end Go.Proofs.YtjghbknhneffjaaGreat
