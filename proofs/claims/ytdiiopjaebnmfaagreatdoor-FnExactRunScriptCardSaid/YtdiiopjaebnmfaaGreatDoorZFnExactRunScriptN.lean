/- Lemmas of this claim. -/
import Derived.Test.YtdiiopjaebnmfaaGreatDoorZFnExactRunScriptI
import Derived.Test.YtdiiopjaebnmfaaGreatDoorZFnExactRunScriptJ
import Derived.Test.YtdiiopjaebnmfaaGreatDoorZFnExactRunScriptK
import Derived.Test.YtdiiopjaebnmfaaGreatDoorZFnExactRunScriptL
set_option maxHeartbeats 16000000
set_option maxRecDepth 100000
set_option linter.unusedVariables false
set_option linter.unusedSimpArgs false
namespace Go.Proofs.YtdiiopjaebnmfaaGreatDoor
open _root_.Go.Proofs.Tryz
open _root_.Bool renaming and_eq_true->zk,false_and->P_,true_and->Qd,and_false->Qk,and_true->Qp,or_eq_true->Qx,not_false->Qy,not_true->QA,or_true->QB
open _root_.List renaming drop_eq_getElem_cons->zG,getD_eq_getElem?_getD->P6,drop_eq_nil_of_le->P7,getElem?_eq_getElem->P8,take_succ_eq_append_getElem->Qa,length_append->Qb,length_map->Qc,map_append->Qe,length_filter_le->Qf,map_set->Qg,length_cons->Qh,append_nil->Qi,all_nil->Qj,append_assoc->Ql,length_nil->Qm,all_cons->Qo,nil_append->Qq,map_cons->Qr,map_nil->Qs,flatMap_cons->Qu,take_length->Qv,getElem_mem->Qw
open _root_.Nat renaming zero_le->P9,le_refl->Qn,add_sub_cancel->Qt,add_assoc->Qz
section
open Go.RowKit
def gr (w:WorldD) (side:Int) (t:List UInt8):WorldD:=if side=1 then { w with wroteA:=w.wroteA++t } else { w with wroteB:=w.wroteB++t }
def dj (w:WorldD) (side:Int) (t:List UInt8):WorldD:=if side=1 then { w with readA:=w.readA++t } else { w with readB:=w.readB++t }
def eK (w:WorldD) (x:LetterD):Bool:=cU x && !decide (bj x.to=0) && iX w.known x.tag && [x.key,x.nonce,x.give,x.sgn].all fun n=>decide (n < 1000) || nF w.nums n
def kC (e:EndD) (a:ActD):EndD×List LetterD:=
 if a.kind=1 then aY e a.text else if a.kind=2 then ((bJ e a.many).1,[]) else if a.kind=3 then tick e else if a.kind=4 then manage e
 else if a.kind=5 then ((aK e a.addr).1,[]) else if a.kind=6 then bf e a.pos else bI e a.pos
def ld (w:WorldD) (a:ActD):WorldD:=
 if a.kind=1 then gr w a.side (a.text.take (write (cV w a.side) a.text).2) else if a.kind=2 then dj w a.side (bJ (cV w a.side) a.many).2 else w
def dK (w:WorldD) (a:ActD):Bool:=decide (a.kind=5) && (!decide (bj a.addr.addr=a.side) || !(aK (cV w a.side) a.addr).2)
def bb (w:WorldD) (a:ActD):WorldD×Int:=
 if dK w a then (w,1) else (ay a.side (cN (ld w a) a.side (kC (cV w a.side) a).1) (kC (cV w a.side) a).2,0)
def jd (l:List LetterD) (n:Int):List LetterD:=l.take n.toNat++l.drop (n.toNat+1)
def p_ (l:List LetterD) (n:Nat):LetterD:=l.getD n default
def bg (w:WorldD) (a:ActD):WorldD×Int:=
 if a.kind=8\/a.kind=9 then
  if (w.bag.length:Int)<=a.pos then (w,1)
  else if a.kind=8 then (ik { w with bag:=jd w.bag a.pos } (p_ w.bag a.pos.toNat),0) else ({ w with bag:=jd w.bag a.pos },0)
 else if a.kind=10 then
  if (w.bag.length:Int)<=a.pos\/40<=w.bag.length then (w,1) else ({ w with bag:=w.bag++[p_ w.bag a.pos.toNat] },0)
 else if a.kind=11 then
  if eK w a.letter=false then (w,2) else if 40<=w.bag.length then (w,1) else ({ w with bag:=w.bag++[a.letter] },0)
 else
  if (w.past.length:Int)<=a.pos\/bj (p_ w.past a.pos.toNat).to=0\/40<=w.bag.length then (w,1) else ({ w with bag:=w.bag++[p_ w.past a.pos.toNat] },0)
def d_ (w:WorldD) (a:ActD):WorldD×Int:=if dN a then (if a.kind<=7 then bb w a else bg w a) else (w,3)
def oH (l:List AddrD) (n:Int):Nat->Int
 |0=> -1
 |k+1=>if (ox l k).addr=n then (k:Int) else oH l n k
theorem ES {l:List AddrD} {n:Int} {k:Nat} (h:k < l.length):jG (l.take (k+1)) n=(jG (l.take k) n || l[k].addr == n):=by
 rw [jG,Qa h,List.any_append];simp [jG]
theorem sW {l:List AddrD} {n:Int} {k:Nat} (h:k < l.length):bW (l.take (k+1)) n=if l[k].addr=n then l[k].spare else bW (l.take k) n:=by
 rw [bW,Qa h,List.foldl_append];rfl
theorem sX {l:List AddrD} {n:Int}:∀ (k:Nat),k<=l.length->(oH l n k= -1/\jG (l.take k) n=false/\bW (l.take k) n=false)\/∃ j:Nat,∃ hj:j < l.length,j < k/\oH l n k=(j:Int)/\jG (l.take k) n=true/\bW (l.take k) n=l[j].spare
 |0,_=>.inl ⟨rfl,by simp [jG],by simp [bW]⟩
 |k+1,h=>by
  have hk:k < l.length:=zO
  rw [ES hk,sW hk,oH,ja hk]
  by_cases he:l[k].addr=n
  ·right
   exact⟨k,hk,Nat.lt_succ_self k,by rw [if_pos he],by rw [Qx];exact .inr (by simpa using he),by rw [if_pos he]⟩
  rw [if_neg he,if_neg he]
  have hb:(l[k].addr == n)=false:=by simpa using he
  rw [hb,Bool.or_false]
  rcases sX (l:=l) (n:=n) k zO with h1|⟨j,hj,h2,h3⟩
  ·exact .inl h1
  exact .inr ⟨j,hj,Nat.lt_succ_of_lt h2,h3⟩
def ET (l:List AddrD) (n:Int):Int:=oH l n l.length
theorem oI (l:List AddrD) (n:Int):(ET l n= -1/\jG l n=false/\bW l n=false)\/∃ j:Nat,∃ hj:j < l.length,ET l n=(j:Int)/\jG l n=true/\bW l n=l[j].spare:=by
 have:=sX (l:=l) (n:=n) l.length (Qn _)
 rw [Qv] at this
 rcases this with h|⟨j,hj,_,h⟩
 ·exact .inl h
 exact .inr ⟨j,hj,h⟩
theorem yx (e:EndD) (n:Int) (hl:e.far.length<=1048576):aP 151 [.ag (e.cs 0),.sc (.int .i64 n)] (e.hp false) (.sc (.int .i64 (ET e.far n))) (e.hp false):=by
 obtain⟨R,hR⟩:∃ R,R=ET e.far n:=⟨_,rfl⟩
 rw [<-hR]
 rw [ET] at hR
 refine au func151 zXk rfl fun E hE=>ab 400 ?_
 simp (disch:=omega) only [ntmps151,results151,go_sem,seval]
 refine dI 7 hE (fun s (k:Nat)=>s.at (qU [0,1,4,1,6,17]) [(5,.sc (.int .i64 ((k:Int) - 1)))] (s.hp)) (fun (k:Nat)=>k<=e.far.length/\R=oH e.far n k) (fun (k:Nat)=>k) e.far.length (qI 0 8) (qC) (⟨Qn _,hR⟩) (aw zF zF ?_) fun k hk N hN=>?_
 ·try simp (disch:=omega) only [go_sem,seval]
 obtain⟨h1,h2⟩:=hk
 refine ab 400 ?_
 cases k with
 |zero=>
  rw [oH] at h2
  subst h2
  try simp (disch:=omega) only [go_sem,seval]
  refine aj (qI 0 7) (qC) _ zXg zF zF ?_
  simp (disch:=omega) only [go_sem,seval]
 |succ j=>
  have hj:j < e.far.length:=zO
  have hg:=aC (enc:=AddrD.cs) hj
  have e1:((j+1:Nat):Int) - 1=(j:Int):=zO
  have e2:(j:Int)+1 - 1=(j:Int):=zO
  rw [oH,ja hj] at h2
  try simp (disch:=omega) only [go_sem,seval,e1,e2,hg]
  split<;>rename_i b<;>(try simp only [zR] at b)<;>simp (disch:=omega) only [go_sem,seval,b]<;>(try simp only [zQ] at b)<;>try simp (disch:=omega) only [go_sem,seval]
  ·rw [if_pos b] at h2
   subst h2
   try simp (disch:=omega) only [go_sem,seval]
   refine aj (qI 0 7) (qC) _ zXg zF zF ?_
   simp (disch:=omega) only [go_sem,seval]
  rw [if_neg b] at h2
  refine⟨qC,hN _ j (qI 0 8) (by (try dsimp only);exact⟨zO,h2⟩) (by (try dsimp only);omega) (aw zF zF ?_)⟩
  try simp (disch:=omega) only [go_sem,seval]
theorem EU (e:EndD) (n:Int) (hl:e.far.length<=1048576):aP 267 [.ag (e.cs 0),.sc (.int .i64 n)] (e.hp false) (.sc (.bo (jG e.far n))) (e.hp false):=by
 obtain⟨R,hR⟩:∃ R,R=jG e.far n:=⟨_,rfl⟩
 rw [<-hR]
 rw [jG] at hR
 refine qE func267 ntmps267 results267 fun E hE=>?_
 refine fJ 7 hE (fun s (k:Nat)=>s.at (qU [0,1,4,1,6,15]) [(5,.sc (.int .i64 (k:Nat)))] (s.hp)) (fun (k:Nat)=>k<=e.far.length/\R=(e.far.drop k).any (fun a=>a.addr == n)) (fun (k:Nat)=>e.far.length - k) 0 (qI 0 8) (⟨P9 _,hR⟩) fun k hk N hN=>?_
 obtain⟨h1,h2⟩:=hk
 refine qR ?_
 refine qB (fun h=>?_) fun h=>?_
 ·rw [gE h] at h2
  have hg:=aC (enc:=AddrD.cs) h
  try simp (disch:=omega) only [go_sem,seval,hg]
  refine qB (fun b=>?_) fun b=>?_
  ·rw [show (e.far[k].addr == n)=true by simpa using b,Bool.true_or] at h2
   subst h2
   refine qX ?_
   exact qF (qI 0 7)
  rw [show (e.far[k].addr == n)=false by simpa using b,Bool.false_or] at h2
  exact qN hN (k+1) (qI 0 8) (by (try dsimp only);exact⟨zO,h2⟩)
 rw [fR zO] at h2
 subst h2
 refine qX ?_
 exact qF (qI 0 7)
theorem O6 {e:EndD} {r:RoadD} {b:Bool} (h:Gh e r=false):gM e r b=(e,[]):=if_neg (by simp [h])
theorem O7 {e:EndD} {r:RoadD} {b:Bool} (h:Gh e r=true):gM e r b=({ e with subs:=e.subs++[gL e r b],draw:=e.draw+4 },[ia e (gL e r b)]):=if_pos h
theorem m7 {e:EndD} (h:aq e=true):bU e.side 1 2=true:=by
 simp only [aq,zk] at h
 simp_all
theorem IZ (e:EndD) (r:RoadD) (sp:Bool) (hs:Small e):aP 152 [.ag (e.cs 0),.ag r.cs,.sc (.bo sp)] (e.hp false) (.tu [.ag ((gM e r sp).1.cs 7),.sc (.sl 14 0 (gM e r sp).2.length)])
  (e.hp false++((gM e r sp).1.hp true++[some ⟨(gM e r sp).2.map LetterD.cs,19,36,true,true⟩])):=by
 have hC:=(qH (aG e))
 have hK:=(qH (bA e))
 have hO:=jO e r.own (by have:=hs.own;omega)
 have hS:=fT e r (by have:=hs.subs;omega)
 have hsub:=hs.subs
 have hF:=yx e r.far (by have:=hs.far;omega)
 have hcase:=oI e.far r.far
 have hf:=O6 (e:=e) (r:=r) (b:=sp)
 have ht:=O7 (e:=e) (r:=r) (b:=sp)
 have hk:=Gh.eq_1 e r
 generalize gM e r sp=R at*
 refine ix func152 ntmps152 results152 fun E hE=>?_
 refine qK (hC) (qI 0 7) ?_
 refine qK (hK) (qI 0 7) ?_
 refine qB (fun h1=>?_) fun h1=>?_
 ·refine qB (fun h2=>?_) fun h2=>?_
  ·refine qK (iY r) [] ?_
   refine qB (fun h3=>?_) fun h3=>?_
   ·refine qK (hS) (qI 0 7) ?_
    refine qB (fun h4=>?_) fun h4=>?_
    ·refine qK (hO) (qI 0 7) ?_
     refine qB (fun h5=>?_) fun h5=>?_
     ·refine qK (hF) (qI 0 7) ?_
      rcases hcase with⟨q1,q2,_⟩|⟨j,hj,q1,q2,_⟩
      ·rw [hf (by rw [hk];simp [q2])]
       try simp (disch:=omega) only [go_sem,seval,q1]
       exact cP (qI 0 7++qI 10 7++qO 1)
      try simp (disch:=omega) only [go_sem,seval,q1]
      refine qB (fun h7=>?_) fun h7=>?_
      ·refine qK (f7 e) (qI 0 7) ?_
       refine qB (fun h8=>?_) fun h8=>?_
       ·rw [hf (by rw [hk];simp [h8])]
        refine qX ?_
        exact cP (qI 0 7++qI 10 7++qO 1)
       rw [ht (by rw [hk];simp [h1,h2,h3,h5,h8,q2];omega)]
       have h8':=h8
       simp only [bU,zk,decide_eq_true_eq] at h8'
       have hJ:=nE e (gL e r sp) (m7 h1)
       refine qX ?_
       refine qK (gY e h8) (qI 10 8) ?_
       refine aR [(4,5)] [] [(qU [0,7]),[0,1,2,3,5,4,6]] 7 hE (fun s=>s.at (qU [74,5,68,6]) [(7,.sc (.sl 21 0 1))] ((s.hp.set 9 (some ⟨[[.int .i64 e.side,.int .i64 e.state,.int .i64 e.key,.int .i64 e.peer,.int .i64 e.policy.kind,.int .i64 e.policy.many,.sl 10 0 e.own.length,.sl 11 0 e.far.length,.sl 20 0 (e.subs.length+1),.sl 13 0 e.halfs.length,.int .i64 e.bucket.rate,.int .i64 e.bucket.burst,.int .i64 e.bucket.cur,.st e.out.text,.int .i64 e.out.base,.int .i64 e.out.sent,.int .i64 e.out.room,.int .i64 e.inp.read,.st e.inp.ready,.sl 14 0 e.inp.list.length,.sl 15 0 e.done.length,.sl 16 0 e.over.length,.int .i64 (e.draw+4),.int .i64 e.now,.int .i64 e.pick]],25,54,true,false⟩))++[some ⟨[(ia e (gL e r sp)).cs],19,36,true,true⟩])) zXk (qC) zXk ?_ (ab 400 ?_)
       rotate_left
       rotate_right
       simp only [aM]
       refine⟨aa 400 ?_,aa 400 ?_⟩
       ·simp (disch:=omega) only [go_sem]
        refine aE (hJ) (qI 0 7) ?_
        refine⟨qC,(qI 0 22),ae zF zF ?_⟩
        try simp (disch:=omega) only [go_sem,seval]
        try rfl
       ·simp (disch:=omega) only [go_sem]
        refine aE (hJ) (qI 0 7) ?_
        refine⟨qC,(qI 0 22),ae zF zF ?_⟩
        try simp (disch:=omega) only [go_sem,seval]
        try rfl
       refine qX ?_
       refine aO (qI 0 7++qI 10 2++qI 20 1++qI 13 4++qI 21 1) (qC) _ zXg zF zF ?_
       simp (disch:=omega) only [go_sem,seval]
       try simp [SubD.cs,gL]
       try omega
      rw [hf (by rw [hk];first|(simp [h7];done)|(simp [h7];intros;omega))]
      refine qX ?_
      exact cP (qI 0 7++qI 10 7++qO 1)
     rw [hf (by rw [hk];first|(simp [h5];done)|(simp [h5];intros;omega))]
     refine qX ?_
     exact cP (qI 0 7++qI 10 7++qO 1)
    rw [hf (by rw [hk];first|(simp [h4];done)|(simp [h4];intros;omega))]
    refine qX ?_
    exact cP (qI 0 7++qI 10 7++qO 1)
   rw [hf (by rw [hk];first|(simp [h3];done)|(simp [h3];intros;omega))]
   refine qX ?_
   exact cP (qI 0 7++qI 10 7++qO 1)
  rw [hf (by rw [hk];first|(simp [h2];done)|(simp [h2];intros;omega))]
  refine qX ?_
  exact cP (qI 0 7++qI 10 7++qO 1)
 rw [hf (by rw [hk];first|(simp [h1];done)|(simp [h1];intros;omega))]
 refine qX ?_
 exact cP (qI 0 7++qI 10 7++qO 1)
theorem I0 (e:EndD) (r:RoadD) (sp:Bool) (hs:Small e):aP 229 [.ag (e.cs 0),.ag r.cs,.sc (.bo sp)] (e.hp false) (.tu [.ag ((gM e r sp).1.cs 7),.sc (.sl 14 0 (gM e r sp).2.length)])
  (e.hp false++((gM e r sp).1.hp true++[some ⟨(gM e r sp).2.map LetterD.cs,19,36,true,true⟩])):=by
 have hC:=(qH (aF e))
 have hK:=(qH (bz e))
 have hO:=jP e r.own (by have:=hs.own;omega)
 have hS:=fU e r (by have:=hs.subs;omega)
 have hsub:=hs.subs
 have hF:=EU e r.far (by have:=hs.far;omega)
 have hcase:=oI e.far r.far
 have hf:=O6 (e:=e) (r:=r) (b:=sp)
 have ht:=O7 (e:=e) (r:=r) (b:=sp)
 have hk:=Gh.eq_1 e r
 generalize gM e r sp=R at*
 refine ix func229 ntmps229 results229 fun E hE=>?_
 refine qK (hC) (qI 0 7) ?_
 refine qK (hK) (qI 0 7) ?_
 refine qB (fun h1=>?_) fun h1=>?_
 ·refine qB (fun h2=>?_) fun h2=>?_
  ·refine qK (kw r) [] ?_
   refine qB (fun h3=>?_) fun h3=>?_
   ·refine qK (hS) (qI 0 7) ?_
    refine qB (fun h4=>?_) fun h4=>?_
    ·refine qK (hO) (qI 0 7) ?_
     refine qB (fun h5=>?_) fun h5=>?_
     ·refine qK (hF) (qI 0 7) ?_
      refine qB (fun h6=>?_) fun h6=>?_
      ·refine qB (fun h7=>?_) fun h7=>?_
       ·refine qK (ij e) (qI 0 7) ?_
        refine qB (fun h8=>?_) fun h8=>?_
        ·rw [hf (by rw [hk];simp [h8])]
         refine qX ?_
         exact cP (qI 0 7++qI 10 7++qI 18 1)
        rw [ht (by rw [hk];have:=dB h1;simp [h1,h2,h3,h5,h6,h8];omega)]
        have h8':=h8
        simp only [bU,zk,decide_eq_true_eq] at h8'
        have hd1:bU e.draw 1 999999998=true:=by simp only [bU,zk,decide_eq_true_eq];omega
        have hd2:bU (e.draw+2) 1 999999998=true:=by simp only [bU,zk,decide_eq_true_eq];omega
        have hJ:aP 223 [.ag (EndD.cs { e with draw:=e.draw+2+2,subs:=e.subs++[gL e r sp] } 0),.ag (gL e r sp).cs] (EndD.hp { e with draw:=e.draw+2+2,subs:=e.subs++[gL e r sp] } false) (.ag (ia e (gL e r sp)).cs) (EndD.hp { e with draw:=e.draw+2+2,subs:=e.subs++[gL e r sp] } false):=sV _ _ (show bU e.side 1 2=true from m7 h1)
        refine qX ?_
        refine qK (cQ e hs hd1) (qI 10 7) ?_
        refine qK (cQ { e with draw:=e.draw+2 } ⟨hs.own,hs.far,hs.subs,hs.halfs,hs.list,hs.done,hs.over⟩ hd2) (qI 19 7) ?_
        refine qK (j8 { e with draw:=e.draw+2+2 } (gL e r sp) (by have:=dB h1;dsimp only;omega)) (qI 26 7) ?_
        refine aR [(0,6),(4,0),(5,0)] [(4,5),(4,6),(5,6)] [[1,2,3,4,5,0,6,7,8],[1,2,3,4,0,5,6,7,8],[1,2,3,0,4,5,6,7,8],[1,2,3,4,5,6,0,7,8]] 7 hE (fun s=>s.at (qU [9,1,62,25]) [(7,.sc (.sl 35 0 1))] (((s.hp.set 9 (some ⟨[[.int .i64 e.side,.int .i64 e.state,.int .i64 e.key,.int .i64 e.peer,.int .i64 e.policy.kind,.int .i64 e.policy.many,.sl 26 0 e.own.length,.sl 27 0 e.far.length,.sl 34 0 (e.subs.length+1),.sl 29 0 e.halfs.length,.int .i64 e.bucket.rate,.int .i64 e.bucket.burst,.int .i64 e.bucket.cur,.st e.out.text,.int .i64 e.out.base,.int .i64 e.out.sent,.int .i64 e.out.room,.int .i64 e.inp.read,.st e.inp.ready,.sl 30 0 e.inp.list.length,.sl 31 0 e.done.length,.sl 32 0 e.over.length,.int .i64 (e.draw+2+2),.int .i64 e.now,.int .i64 e.pick]],25,54,true,false⟩)).set 18 none)++[some ⟨[(ia e (gL e r sp)).cs],19,36,true,true⟩])) zXk (qC) zXk ?_ (ab 400 ?_)
        rotate_left
        rotate_right
        simp only [aM]
        refine⟨aa 400 ?_,aa 400 ?_,aa 400 ?_,aa 400 ?_⟩
        ·simp (disch:=omega) only [go_sem]
         refine aE (hJ) (qI 26 2++qI 34 1++qI 29 4) ?_
         refine⟨qC,(qI 0 35++qI 36 1),ae zF zF ?_⟩
         try simp (disch:=omega) only [go_sem,seval]
         try rfl
        ·simp (disch:=omega) only [go_sem]
         refine aE (hJ) (qI 26 2++qI 34 1++qI 29 4) ?_
         refine⟨qC,(qI 0 35++qI 36 1),ae zF zF ?_⟩
         try simp (disch:=omega) only [go_sem,seval]
         try rfl
        ·simp (disch:=omega) only [go_sem]
         refine aE (hJ) (qI 26 2++qI 34 1++qI 29 4) ?_
         refine⟨qC,(qI 0 35++qI 36 1),ae zF zF ?_⟩
         try simp (disch:=omega) only [go_sem,seval]
         try rfl
        ·simp (disch:=omega) only [go_sem]
         refine aE (hJ) (qI 26 2++qI 34 1++qI 29 4) ?_
         refine⟨qC,(qI 0 35++qI 36 1),ae zF zF ?_⟩
         try simp (disch:=omega) only [go_sem,seval]
         try rfl
        refine qX ?_
        refine aO (qI 0 7++qI 26 2++qI 34 1++qI 29 4++qI 35 1) (qC) _ zXg zF zF ?_
        simp (disch:=omega) only [go_sem,seval]
        try simp [SubD.cs,gL]
        try omega
       rw [hf (by rw [hk];first|(simp [h7];done)|(simp [h7];intros;omega))]
       refine qX ?_
       exact cP (qI 0 7++qI 10 7++qI 18 1)
      rw [hf (by rw [hk];simp [h6])]
      refine qX ?_
      exact cP (qI 0 7++qI 10 7++qI 18 1)
     rw [hf (by rw [hk];first|(simp [h5];done)|(simp [h5];intros;omega))]
     refine qX ?_
     exact cP (qI 0 7++qI 10 7++qI 18 1)
    rw [hf (by rw [hk];first|(simp [h4];done)|(simp [h4];intros;omega))]
    refine qX ?_
    exact cP (qI 0 7++qI 10 7++qI 18 1)
   rw [hf (by rw [hk];first|(simp [h3];done)|(simp [h3];intros;omega))]
   refine qX ?_
   exact cP (qI 0 7++qI 10 7++qI 18 1)
  rw [hf (by rw [hk];first|(simp [h2];done)|(simp [h2];intros;omega))]
  refine qX ?_
  exact cP (qI 0 7++qI 10 7++qI 18 1)
 rw [hf (by rw [hk];first|(simp [h1];done)|(simp [h1];intros;omega))]
 refine qX ?_
 exact cP (qI 0 7++qI 10 7++qI 18 1)
theorem ri {e:EndD} {r:RoadD} {b:Bool} (hs:Small e):Small (gM e r b).1:=by
 rw [gM];split
 ·rename_i h
  simp only [Gh,zk,decide_eq_true_eq] at h
  exact⟨hs.own,hs.far,by simp only [Qb,List.length_singleton];omega,hs.halfs,hs.list,hs.done,hs.over⟩
 exact hs
theorem yA (e:EndD) (r:RoadD) (b:Bool):(gM e r b).2.length<=1:=by
 rw [gM];split<;>simp
theorem yB {far:List AddrD} {e:EndD} {l:List RoadD} {k:Nat} (h:k < l.length):il far e (l.drop k)=
  ((il far (gM e l[k] (bW far l[k].far)).1 (l.drop (k+1))).1,(gM e l[k] (bW far l[k].far)).2++(il far (gM e l[k] (bW far l[k].far)).1 (l.drop (k+1))).2):=by
 rw [zG h];rfl
theorem Bt {far:List AddrD} {e:EndD} {l:List RoadD} {k:Nat} (h:l.length<=k):il far e (l.drop k)=(e,[]):=by
 rw [P7 h];rfl
theorem Nb {e:EndD} (h:¬ (aq e=true/\e.side=1)):manage e=(e,[]):=if_neg h
theorem Nc {e:EndD} (h:aq e=true/\e.side=1):manage e=il e.far e (fS (wanted e.policy e.own e.far) (gk e.subs)):=if_pos h
theorem m8 (a b:List RoadD):(fS a b).length<=64:=by
 rw [fS];split
 ·rename_i h;exact Nat.le_trans (Qf _ _) h.1
 simp
theorem Bu {e:EndD} (h:aq e=true):e.policy.wf:=by
 have hp:polOk e.policy=true:=by simp only [aq,zk] at h;simp_all
 rw [polOk] at hp
 split at hp
 ·rename_i hk
  simp only [bU,zk,decide_eq_true_eq] at hp
  exact⟨⟨zO,zO⟩,⟨zO,zO⟩⟩
 simp only [zk,Qx,beq_iff_eq] at hp
 exact⟨⟨zO,zO⟩,⟨zO,zO⟩⟩
theorem Bv (l:List SubD):(gk l).length<=l.length:=by
 rw [gk,Qc];exact Qf _ _
theorem vv (e:EndD) (hs:Small e):aP 95 [.ag (e.cs 0)] (e.hp false) (.tu [.ag ((manage e).1.cs 7),.sc (.sl 14 0 (manage e).2.length)])
  (e.hp false++((manage e).1.hp true++[some ⟨(manage e).2.map LetterD.cs,19,36,true,true⟩])):=by
 have hC:=(qH (aG e))
 have hK:=(qH (bA e))
 have hsub:=hs.subs
 have hsf:=hs.far
 have hso:=hs.own
 have hf:=Nb (e:=e)
 have ht:=Nc (e:=e)
 have hH:=EQ e hs.subs
 have hhl:=Bv e.subs
 have hM64:=m8 (wanted e.policy e.own e.far) (gk e.subs)
 obtain⟨R,hR⟩:∃ R,R=manage e:=⟨_,rfl⟩
 rw [<-hR] at hf ht
 rw [<-hR]
 clear hR
 refine aV func95 zXk rfl fun E hE=>ab 400 ?_
 simp (disch:=omega) only [ntmps95,results95,go_sem,seval]
 refine ai (qC) (hC) (qI 0 7) qM zF (ab 400 ?_)
 simp (disch:=omega) only [go_sem,seval]
 refine ai (qC) (hK) (qI 0 7) qM zF (ab 400 ?_)
 simp (disch:=omega) only [go_sem,seval]
 split<;>rename_i h1<;>(try simp only [zR] at h1)<;>simp (disch:=omega) only [go_sem,seval,h1]<;>(try simp only [zQ] at h1)<;>try simp (disch:=omega) only [go_sem,seval]
 ·split<;>rename_i h2<;>(try simp only [zR] at h2)<;>simp (disch:=omega) only [go_sem,seval,h2]<;>(try simp only [zQ] at h2)<;>try simp (disch:=omega) only [go_sem,seval]
  rotate_left
  ·have hR:=ht ⟨h1,h2⟩
   have hWa:=Ai e.policy e.own e.far (Bu h1) zO zO
   have hMi:=xH (wanted e.policy e.own e.far) (gk e.subs) (by have:=yz e.policy e.own e.far;omega) zO
   generalize hMM:fS (wanted e.policy e.own e.far) (gk e.subs)=M at*
   clear hMM
   refine ao [0,1,2,3,4,5,7,11,6,8,9,10] zXk (qC) zXk (aa 400 ?_)
   simp (disch:=omega) only [go_sem,seval]
   refine ak (qC) (hWa) (qI 0 2) qM zF zF (aa 400 ?_)
   simp (disch:=omega) only [go_sem,seval]
   refine ak (qC) (hH) (qI 0 7) qM zF zF (aa 400 ?_)
   simp (disch:=omega) only [go_sem,seval]
   refine ak (qC) (hMi) (qI 17 2) qM zF zF (aa 400 ?_)
   simp (disch:=omega) only [go_sem,seval]
   refine⟨qC,ab 400 ?_⟩
   try simp (disch:=omega) only [go_sem,seval]
   refine gV 7 hE (fun s (y:Nat×EndD×List LetterD)=>s.at (qU [0,1,7,24,34,28]) [(33,.sc (.int .i64 (y.1:Nat))),(31,.sc (.sl 17 0 M.length)),(32,.sc (.int .i64 (M.length:Nat))),(5,.sc (.sl 18 0 y.2.2.length))] ((s.hp.take 9)++(y.2.1.hp true++[some ⟨[y.2.1.cs 9],25,54,true,false⟩,some ⟨M.map RoadD.cs,3,113,true,true⟩,some ⟨y.2.2.map LetterD.cs,19,36,true,true⟩]))) (fun (y:Nat×EndD×List LetterD)=>y.1<=M.length/\Small y.2.1/\y.2.2.length<=y.1/\R=((il e.far y.2.1 (M.drop y.1)).1,y.2.2++(il e.far y.2.1 (M.drop y.1)).2)) (fun (y:Nat×EndD×List LetterD)=>M.length - y.1) (0,e,[]) (qI 0 17++qI 19 1++qO 1) (qC) (⟨P9 _,hs,Qn _,hR⟩) (ae zF zF ?_) fun y hy N hN=>?_
   ·try simp (disch:=omega) only [go_sem,seval]
   obtain⟨i,e1,l⟩:=y
   obtain⟨g1,g2,g3,g4⟩:=hy
   dsimp only at g1 g2 g3 g4
   refine ab 400 ?_
   try simp (disch:=omega) only [go_sem,seval]
   split<;>rename_i b<;>(try simp only [zR] at b)<;>simp (disch:=omega) only [go_sem,seval,b]<;>(try simp only [zQ] at b)<;>try simp (disch:=omega) only [go_sem,seval]
   ·rw [yB b] at g4
    have hg:=aC (enc:=RoadD.cs) b
    generalize hr:M[i]=r at*
    have hJ:=IZ e1 r (bW e.far r.far) g2
    have hj1:=yA e1 r (bW e.far r.far)
    have hjs:=ri (r:=r) (b:=bW e.far r.far) g2
    obtain⟨pr,hpr⟩:∃ p,p=gM e1 r (bW e.far r.far):=⟨_,rfl⟩
    rw [<-hpr] at hJ hj1 hjs g4
    obtain⟨e2,l2⟩:=pr
    dsimp only at hJ hj1 hjs g4
    rw [<-Ql] at g4
    try simp (disch:=omega) only [go_sem,seval,hg,hr]
    refine ai (qC) (yx e r.far hsf) (qI 0 7) qM zF (ab 400 ?_)
    simp (disch:=omega) only [go_sem,seval]
    rcases oI e.far r.far with⟨q1,q2,q3⟩|⟨j,hj,q1,q2,q3⟩
    ·rw [q3] at hJ
     try simp (disch:=omega) only [go_sem,seval,q1]
     refine aR [(12,16)] [] [(qU [0,19]),(qU [0,12,16,1,12,4,17,2])] 7 hE (fun s=>s.at (qU [41,16]) [(9,.sc (.pt 28 0 0)),(10,.sc (.sl 27 0 l2.length))] (s.hp++(e2.hp true++[some ⟨l2.map LetterD.cs,19,36,true,true⟩,some ⟨[e2.cs 20],25,54,true,false⟩]))) zXk (qC) zXk ?_ (ab 400 ?_)
     rotate_left
     rotate_right
     simp only [aM]
     refine⟨aa 400 ?_,aa 400 ?_⟩
     ·simp (disch:=omega) only [go_sem,q1]
      refine ak (qC) (hJ) (qI 9 7) qM zF zF (aa 400 ?_)
      simp (disch:=omega) only [go_sem,seval]
      exact qZ (qI 0 29)
     ·simp (disch:=omega) only [go_sem,q1]
      refine ak (qC) (hJ) (qI 9 7) qM zF zF (aa 400 ?_)
      simp (disch:=omega) only [go_sem,seval]
      exact qZ (qI 0 20++qI 21 8++qI 20 1)
     try simp (disch:=omega) only [go_sem,seval]
     refine⟨qC,hN _ (i+1,e2,l++l2) (qI 0 9++qI 20 7++qI 16 2++qI 29 1) (by (try dsimp only);exact⟨zO,hjs,by simp only [Qb];omega,g4⟩) (by (try dsimp only);omega) (ae zF zF ?_)⟩
     try simp (disch:=omega) only [go_sem,seval]
     try simp
    rw [q3] at hJ
    have hgf:=aC (enc:=AddrD.cs) hj
    try simp (disch:=omega) only [go_sem,seval,q1]
    refine aR [(12,16)] [] [(qU [0,19]),(qU [0,12,16,1,12,4,17,2])] 7 hE (fun s=>s.at (qU [41,16]) [(9,.sc (.pt 28 0 0)),(10,.sc (.sl 27 0 l2.length))] (s.hp++(e2.hp true++[some ⟨l2.map LetterD.cs,19,36,true,true⟩,some ⟨[e2.cs 20],25,54,true,false⟩]))) zXk (qC) zXk ?_ (ab 400 ?_)
    rotate_left
    rotate_right
    simp only [aM]
    refine⟨aa 400 ?_,aa 400 ?_⟩
    ·simp (disch:=omega) only [go_sem,q1,hgf]
     refine ak (qC) (hJ) (qI 9 7) qM zF zF (aa 400 ?_)
     simp (disch:=omega) only [go_sem,seval]
     exact qZ (qI 0 29)
    ·simp (disch:=omega) only [go_sem,q1,hgf]
     refine ak (qC) (hJ) (qI 9 7) qM zF zF (aa 400 ?_)
     simp (disch:=omega) only [go_sem,seval]
     exact qZ (qI 0 20++qI 21 8++qI 20 1)
    try simp (disch:=omega) only [go_sem,seval]
    refine⟨qC,hN _ (i+1,e2,l++l2) (qI 0 9++qI 20 7++qI 16 2++qI 29 1) (by (try dsimp only);exact⟨zO,hjs,by simp only [Qb];omega,g4⟩) (by (try dsimp only);omega) (ae zF zF ?_)⟩
    try simp (disch:=omega) only [go_sem,seval]
    try simp
   rw [Bt zO,Qi] at g4
   subst g4
   try simp (disch:=omega) only [go_sem,seval]
   refine aO (qI 0 7++qI 9 7++qI 18 1) (qC) _ zXg zF zF ?_
   simp (disch:=omega) only [go_sem,seval]
  rw [hf (fun h=>h2 h.2)]
  try simp (disch:=omega) only [go_sem,seval]
  refine aO (qI 0 7++qI 9 7++qO 1) (qC) _ zXg zF zF ?_
  simp (disch:=omega) only [go_sem,seval]
 rw [hf (fun h=>by rw [h1] at h;cases h.1)]
 try simp (disch:=omega) only [go_sem,seval]
 refine aO (qI 0 7++qI 9 7++qO 1) (qC) _ zXg zF zF ?_
 simp (disch:=omega) only [go_sem,seval]
theorem vw (e:EndD) (hs:Small e):aP 174 [.ag (e.cs 0)] (e.hp false) (.tu [.ag ((manage e).1.cs 7),.sc (.sl 14 0 (manage e).2.length)])
  (e.hp false++((manage e).1.hp true++[some ⟨(manage e).2.map LetterD.cs,19,36,true,true⟩])):=by
 have hC:=(qH (aF e))
 have hK:=(qH (bz e))
 have hsub:=hs.subs
 have hsf:=hs.far
 have hso:=hs.own
 have hf:=Nb (e:=e)
 have ht:=Nc (e:=e)
 have hH:=ER e hs.subs
 have hhl:=Bv e.subs
 have hM64:=m8 (wanted e.policy e.own e.far) (gk e.subs)
 obtain⟨R,hR⟩:∃ R,R=manage e:=⟨_,rfl⟩
 rw [<-hR] at hf ht
 rw [<-hR]
 clear hR
 refine ix func174 ntmps174 results174 fun E hE=>?_
 refine qK (hC) (qI 0 7) ?_
 refine qK (hK) (qI 0 7) ?_
 refine qB (fun h1=>?_) fun h1=>?_
 ·refine qB (fun h2=>?_) fun h2=>?_
  rotate_left
  ·have hR:=ht ⟨h1,h2⟩
   have hWa:=Aj e.policy e.own e.far (Bu h1) zO zO
   have hMi:=xI (wanted e.policy e.own e.far) (gk e.subs) (by have:=yz e.policy e.own e.far;omega) zO
   generalize hMM:fS (wanted e.policy e.own e.far) (gk e.subs)=M at*
   clear hMM
   refine qD [0,1,2,3,4,5,7,6,8,9,10] ?_
   refine aE (hWa) (qI 0 2) ?_
   refine aE (hH) (qI 0 7) ?_
   refine aE (hMi) (qI 18 2) ?_
   refine qG ?_
   refine pB 7 hE (fun s (y:Nat×EndD×List LetterD)=>s.at (qU [0,1,8,71]) [(7,.sc (.int .i64 (y.1:Nat))),(6,.sc (.sl 17 0 M.length)),(5,.sc (.sl 18 0 y.2.2.length))] ((s.hp.take 9)++(y.2.1.hp true++[some ⟨[y.2.1.cs 9],25,54,true,false⟩,some ⟨M.map RoadD.cs,3,113,true,true⟩,some ⟨y.2.2.map LetterD.cs,19,36,true,true⟩]))) (fun (y:Nat×EndD×List LetterD)=>y.1<=M.length/\Small y.2.1/\y.2.2.length<=y.1/\R=((il e.far y.2.1 (M.drop y.1)).1,y.2.2++(il e.far y.2.1 (M.drop y.1)).2)) (fun (y:Nat×EndD×List LetterD)=>M.length - y.1) (0,e,[]) (qI 0 17++qI 20 1++qI 17 1) (⟨P9 _,hs,Qn _,hR⟩) fun y hy N hN=>?_
   obtain⟨i,e1,l⟩:=y
   obtain⟨g1,g2,g3,g4⟩:=hy
   dsimp only at g1 g2 g3 g4
   refine qR ?_
   refine qB (fun b=>?_) fun b=>?_
   ·rw [yB b] at g4
    have hg:=aC (enc:=RoadD.cs) b
    generalize hr:M[i]=r at*
    have hJ:=I0 e1 r (bW e.far r.far) g2
    have hj1:=yA e1 r (bW e.far r.far)
    have hjs:=ri (r:=r) (b:=bW e.far r.far) g2
    obtain⟨pr,hpr⟩:∃ p,p=gM e1 r (bW e.far r.far):=⟨_,rfl⟩
    rw [<-hpr] at hJ hj1 hjs g4
    obtain⟨e2,l2⟩:=pr
    dsimp only at hJ hj1 hjs g4
    rw [<-Ql] at g4
    try simp (disch:=omega) only [go_sem,seval,hg,hr]
    refine pB 7 hE (fun s (z:Nat×Bool)=>s.at (qU [0,1,11,26,38,41]) [(9,.sc (.int .i64 (z.1:Nat))),(8,.sc (.bo z.2))] (s.hp)) (fun (z:Nat×Bool)=>z.1<=e.far.length/\z.2=bW (e.far.take z.1) r.far) (fun (z:Nat×Bool)=>e.far.length - z.1) (0,false) (qI 0 19) (⟨P9 _,rfl⟩) fun z hz N2 hN2=>?_
    obtain⟨k,sb⟩:=z
    obtain⟨f1,f2⟩:=hz
    dsimp only at f1 f2
    refine qR ?_
    refine qB (fun c1=>?_) fun c1=>?_
    ·have hgf:=aC (enc:=AddrD.cs) c1
     have hsn:=sW (n:=r.far) c1
     rw [<-f2] at hsn
     refine qD [0,1,2,3,4,5,6,7,8,9,10,11] ?_
     try simp (disch:=omega) only [go_sem,seval,hgf,hg,hr]
     refine qG ?_
     refine qB (fun c2=>?_) fun c2=>?_
     ·rw [if_pos c2] at hsn
      try simp (disch:=omega) only [go_sem,seval,hgf]
      exact Mc hN2 (k+1,e.far[k].spare) (qI 0 19) (by (try dsimp only);exact⟨zO,hsn.symm⟩)
     rw [if_neg c2] at hsn
     refine qX ?_
     exact Mc hN2 (k+1,sb) (qI 0 19) (by (try dsimp only);exact⟨zO,hsn.symm⟩)
    have e3:k=e.far.length:=zO
    subst e3
    rw [Qv] at f2
    subst f2
    refine qX ?_
    refine qD [0,1,2,3,4,5,6,7,8,9,10,11] ?_
    try simp (disch:=omega) only [go_sem,seval,hg,hr]
    refine aE (hJ) (qI 9 7) ?_
    refine qG ?_
    refine Iu hN (i+1,e2,l++l2) (qI 0 9++qI 20 7++qI 16 2++qI 28 1) (by (try dsimp only);exact⟨zO,hjs,by simp only [Qb];omega,g4⟩) ?_
    first|exact⟨⟩|simp
   rw [Bt zO,Qi] at g4
   subst g4
   refine qX ?_
   exact cP (qI 0 7++qI 9 7++qI 18 1)
  rw [hf (fun h=>h2 h.2)]
  refine qX ?_
  exact cP (qI 0 7++qI 9 7++qI 17 1)
 rw [hf (fun h=>by rw [h1] at h;cases h.1)]
 refine qX ?_
 exact cP (qI 0 7++qI 9 7++qI 17 1)
def dD {α:Type} (f:α->α) (l:List α) (k:Nat):List α:=(l.take k).map f++l.drop k
theorem pf {α:Type} {f:α->α} {l:List α} {k:Nat}:(dD f l k).length=l.length:=by simp [dD];omega
theorem KS {α:Type} {f:α->α} {l:List α} {k:Nat} (h:k < l.length):(dD f l k)[k]? =some l[k]:=by
 have h1:((l.take k).map f).length=k:=by simp;omega
 rw [dD,List.getElem?_append_right zO,zG h,h1]
 simp
theorem pg {α:Type} {f:α->α} {l:List α} {k:Nat} (h:k < l.length):∀ p:k < (dD f l k).length,(dD f l k)[k]'p=l[k]:=by
 intro p
 have hq:=KS (f:=f) h
 rw [P8 p] at hq
 exact Option.some.inj hq
theorem ph {α:Type} {f:α->α} {l:List α} {k:Nat} (h:k < l.length):(dD f l k).set k (f l[k])=dD f l (k+1):=by
 have h1:((l.take k).map f).length=k:=by simp;omega
 rw [dD,dD,List.set_append_right _ _ zO,Qa h,Qe,h1]
 simp
 rw [zG h]
 rfl
theorem m_ {α:Type} {f:α->α} {l:List α} {k:Nat} (h:k < l.length) (hs:f l[k]=l[k]):dD f l (k+1)=dD f l k:=by
 rw [dD,dD,Qa h,Qe,zG h]
 simp [hs]
theorem nc {α:Type} {f:α->α} {l:List α}:dD f l 0=l:=by simp [dD]
theorem pi {α:Type} {f:α->α} {l:List α}:dD f l l.length=l.map f:=by simp [dD]
theorem O_ {e:EndD} {n:Int} (h:Gg e n=false):bf e n=(e,[]):=if_neg (by simp [h])
theorem Pa {e:EndD} {n:Int} {i:Nat} (h:Gg e n=true) (hi:bs e.own n=(i:Int)) (hl:i < e.own.length):
  bf e n=({ e with own:=(bC e.own n).1,done:=jC e.done n,subs:=e.subs.map (gq e.own[i].addr) },(jm (e.subs.map (gq e.own[i].addr))).map fun k=>Bo n (bH (e.subs.map (gq e.own[i].addr)) k)):=by
 rw [bf,if_pos h,fI,hi,Int.toNat_natCast,ja hl]
theorem yE {e:EndD} (h:aq e=true):e.done.length<=256:=(uo h).1
theorem sZ (e:EndD) (n:Int) (hs:Small e):aP 98 [.ag (e.cs 0),.sc (.int .i64 n)] (e.hp false) (.tu [.ag ((bf e n).1.cs 7),.sc (.sl 14 0 (bf e n).2.length)])
  (e.hp false++((bf e n).1.hp true++[some ⟨(bf e n).2.map LetterD.cs,19,36,true,true⟩])):=by
 have hC:=(qH (aG e))
 have hK:=(qH (bA e))
 have hA:=fN e.own n (by have:=hs.own;omega)
 have hD:=pW e.own n (by have:=hs.own;omega)
 have hsb:=hs.subs
 have hso:=hs.own
 have hbd:=eZ e.own n
 have hf:=O_ (e:=e) (n:=n)
 have ht:= @Pa e n
 have hok:Gg e n=(aq e && decide (e.state=2) && decide (0<=bs e.own n)):=rfl
 obtain⟨R,hR⟩:∃ R,R=bf e n:=⟨_,rfl⟩
 rw [<-hR] at hf ht
 rw [<-hR]
 clear hR
 refine ix func98 ntmps98 results98 fun E hE=>?_
 refine qK (hC) (qI 0 7) ?_
 refine qK (hA) (qI 0 1) ?_
 rcases hbd with hi0|⟨hi0,hi1⟩
 ·rw [hf (by rw [hok,hi0];simp)]
  rw [hi0]
  refine qX ?_
  refine qK (hK) (qI 0 7) ?_
  refine qB (fun h1=>?_) fun h1=>?_
  ·refine qB (fun h2=>?_) fun h2=>?_
   ·refine qX ?_
    exact cP (qI 0 7++qI 9 7++qO 1)
   refine qX ?_
   exact cP (qI 0 7++qI 9 7++qO 1)
  refine qX ?_
  exact cP (qI 0 7++qI 9 7++qO 1)
 obtain⟨i,hi⟩:=Int.eq_ofNat_of_zero_le hi0
 have hil:i < e.own.length:=zO
 rw [hi]
 refine qX ?_
 refine qK (hK) (qI 0 7) ?_
 refine qB (fun h1=>?_) fun h1=>?_
 ·refine qB (fun h2=>?_) fun h2=>?_
  ·have hR:=ht (by rw [hok,h1,h2,hi];simp) hi hil
   have hdl:(bC e.own n).1.length<=e.own.length:=by rw [jD hi];simp;omega
   have hgo:=aC (enc:=AddrD.cs) hil
   generalize hv:e.own[i].addr=v at hR
   try simp (disch:=omega) only [go_sem,seval,hgo,hv]
   refine qK (hD) (qI 0 1) ?_
   refine qK (Ev e.done n (by have:=yE h1;omega)) (qI 5 1) ?_
   refine gV 7 hE (fun s (k:Nat)=>s.at (qU [0,1,2,1,7,1,9,1,13,40,55,17]) [(54,.sc (.int .i64 (k:Nat)))] (s.hp.set 11 (some ⟨(dD (gq v) e.subs k).map SubD.cs,10,115,true,true⟩))) (fun (k:Nat)=>k<=e.subs.length) (fun (k:Nat)=>e.subs.length - k) 0 (qI 0 19) (qC) (P9 _) (ae zF zF ?_) fun k hk N hN=>?_
   ·refine qX ?_
    rw [nc]
   refine ab 400 ?_
   have hgl:(dD (gq v) e.subs k).length=e.subs.length:=pf
   refine qX ?_
   refine qB (fun h=>?_) fun h=>?_
   ·have hg:=pg (f:=gq v) h
    try simp (disch:=omega) only [go_sem,seval,hg]
    refine qB (fun h9=>?_) fun h9=>?_
    ·refine qX ?_
     refine⟨qC,hN _ (k+1) (qI 0 19) (by (try dsimp only);exact by omega) (by (try dsimp only);omega) (ae zF zF ?_)⟩
     refine qX ?_
     rw [<-ph h,Qg]
     simp [gq,h9,hg,SubD.cs]
    refine qX ?_
    refine⟨qC,hN _ (k+1) (qI 0 19) (by (try dsimp only);exact by omega) (by (try dsimp only);omega) (ae zF zF ?_)⟩
    refine qX ?_
    rw [m_ h (by rw [gq,if_neg h9])]
   have hkl:k=e.subs.length:=zO
   subst hkl
   rw [pi]
   have hdl2:(e.subs.map (gq v)).length<=1048576:=by rw [Qc];exact hsb
   have hO:=ue { e with own:=(bC e.own n).1,done:=jC e.done n,subs:=e.subs.map (gq v) } hdl2
   have hlen:(e.subs.map (gq v)).length=e.subs.length:=Qc ..
   generalize hDD:e.subs.map (gq v)=D at*
   clear hDD
   rw [<-hlen]
   refine qX ?_
   refine qK (hO) (qI 17 1++qI 10 4++qI 18 1++qI 15 1) ?_
   have honl:=mL D
   refine pB 7 hE (fun s (y:Nat×List LetterD)=>s.at (qU [0,1,2,1,7,3,12,61,76,22]) [(75,.sc (.int .i64 (y.1:Nat))),(10,.sc (.sl 20 0 y.2.length))] ((s.hp.take 20)++[some ⟨y.2.map LetterD.cs,19,36,true,true⟩])) (fun (y:Nat×List LetterD)=>y.1<=(jm D).length/\y.2.length<=y.1/\R=({ e with own:=(bC e.own n).1,done:=jC e.done n,subs:=D },y.2++((jm D).drop y.1).map fun k=>Bo n (bH D k))) (fun (y:Nat×List LetterD)=>(jm D).length - y.1) (0,[]) (qI 0 20++qO 1) (⟨P9 _,P9 _,hR⟩) fun y hy N2 hN2=>?_
   obtain⟨q,l⟩:=y
   obtain⟨g1,g2,g3⟩:=hy
   dsimp only at g1 g2 g3
   refine qR ?_
   refine qB (fun b=>?_) fun b=>?_
   ·have hkq:=t7 b
    rw [zG b,Qr] at g3
    have hgq:=aC (enc:=ll) b
    generalize hk0:(jm D)[q]=k0 at*
    rw [bQ hkq] at g3
    have hgs:=aC (enc:=SubD.cs) hkq
    generalize hss:D[k0]=s0 at*
    have hB:=bB s0.road { ac with kind:=10,sgn:=s0.give,id:=n }
    try simp (disch:=omega) only [go_sem,seval,hgq,hk0,ll]
    refine qD [0,1,2,3,4,5,6,7,8,9,10,11,12,13,14,15,16,17,18] ?_
    try simp (disch:=omega) only [go_sem,seval,hgs,hss]
    refine aE (hB) [] ?_
    refine qG ?_
    refine⟨qC,hN2 _ (q+1,l++[Bo n s0]) (qI 0 20++qI 22 1) (by (try dsimp only);exact⟨zO,by simp;omega,by simpa using g3⟩) (by (try dsimp only);omega) (ae zF zF ?_)⟩
    refine qX ?_
    rw [Qe]
    rfl
   rw [P7 zO,Qs,Qi] at g3
   subst g3
   refine qX ?_
   exact cP (qI 0 7++qI 17 1++qI 10 4++qI 18 1++qI 15 1++qI 20 1)
  rw [hf (by rw [hok];simp [h2])]
  refine qX ?_
  exact cP (qI 0 7++qI 9 7++qO 1)
 rw [hf (by rw [hok];simp [h1])]
 refine qX ?_
 exact cP (qI 0 7++qI 9 7++qO 1)
theorem s8 (e:EndD) (n:Int) (hs:Small e):aP 176 [.ag (e.cs 0),.sc (.int .i64 n)] (e.hp false) (.tu [.ag ((bf e n).1.cs 7),.sc (.sl 14 0 (bf e n).2.length)])
  (e.hp false++((bf e n).1.hp true++[some ⟨(bf e n).2.map LetterD.cs,19,36,true,true⟩])):=by
 have hC:=(qH (aF e))
 have hK:=(qH (bz e))
 have hA:=eF e.own n (by have:=hs.own;omega)
 have hD:=pX e.own n (by have:=hs.own;omega)
 have hsb:=hs.subs
 have hso:=hs.own
 have hbd:=eZ e.own n
 have hf:=O_ (e:=e) (n:=n)
 have ht:= @Pa e n
 have hok:Gg e n=(aq e && decide (e.state=2) && decide (0<=bs e.own n)):=rfl
 obtain⟨R,hR⟩:∃ R,R=bf e n:=⟨_,rfl⟩
 rw [<-hR] at hf ht
 rw [<-hR]
 clear hR
 refine ix func176 ntmps176 results176 fun E hE=>?_
 refine qK (hC) (qI 0 7) ?_
 refine qK (hA) (qI 0 1) ?_
 rcases hbd with hi0|⟨hi0,hi1⟩
 ·rw [hf (by rw [hok,hi0];simp)]
  rw [hi0]
  refine qX ?_
  refine qK (hK) (qI 0 7) ?_
  refine qB (fun h1=>?_) fun h1=>?_
  ·refine qB (fun h2=>?_) fun h2=>?_
   ·refine qX ?_
    exact cP (qI 0 7++qI 9 7++qI 17 1)
   refine qX ?_
   exact cP (qI 0 7++qI 9 7++qI 17 1)
  refine qX ?_
  exact cP (qI 0 7++qI 9 7++qI 17 1)
 obtain⟨i,hi⟩:=Int.eq_ofNat_of_zero_le hi0
 have hil:i < e.own.length:=zO
 rw [hi]
 refine qX ?_
 refine qK (hK) (qI 0 7) ?_
 refine qB (fun h1=>?_) fun h1=>?_
 ·refine qB (fun h2=>?_) fun h2=>?_
  ·have hR:=ht (by rw [hok,h1,h2,hi];simp) hi hil
   have hdl:(bC e.own n).1.length<=e.own.length:=by rw [jD hi];simp;omega
   have hgo:=aC (enc:=AddrD.cs) hil
   generalize hv:e.own[i].addr=v at hR
   try simp (disch:=omega) only [go_sem,seval,hgo,hv]
   refine qK (vk e.done n (by have:=yE h1;omega)) (qI 5 1) ?_
   refine qK (hD) (qI 0 1) ?_
   refine gV 7 hE (fun s (k:Nat)=>s.at (qU [0,1,13,60]) [(9,.sc (.int .i64 (k:Nat)))] (s.hp.set 11 (some ⟨(dD (gq v) e.subs k).map SubD.cs,10,115,true,true⟩))) (fun (k:Nat)=>k<=e.subs.length) (fun (k:Nat)=>e.subs.length - k) 0 (qI 0 20) (qC) (P9 _) (ae zF zF ?_) fun k hk N hN=>?_
   ·refine qX ?_
    rw [nc]
   refine ab 400 ?_
   have hgl:(dD (gq v) e.subs k).length=e.subs.length:=pf
   refine qX ?_
   refine qB (fun h=>?_) fun h=>?_
   ·have hg:=pg (f:=gq v) h
    try simp (disch:=omega) only [go_sem,seval,hg]
    refine qD [0,1,2,3,4,5,6,7,8,9,10,11,12,13] ?_
    refine⟨qC,ab 400 ?_⟩
    try simp (disch:=omega) only [go_sem,seval,hg,hgo,hv]
    refine qB (fun h9=>?_) fun h9=>?_
    ·refine qX ?_
     refine⟨qC,hN _ (k+1) (qI 0 20) (by (try dsimp only);exact by omega) (by (try dsimp only);omega) (ae zF zF ?_)⟩
     refine qX ?_
     rw [<-ph h,Qg]
     simp [gq,h9,hg,SubD.cs]
    refine qX ?_
    refine⟨qC,hN _ (k+1) (qI 0 20) (by (try dsimp only);exact by omega) (by (try dsimp only);omega) (ae zF zF ?_)⟩
    refine qX ?_
    rw [m_ h (by rw [gq,if_neg h9])]
   have hkl:k=e.subs.length:=zO
   subst hkl
   rw [pi]
   have hdl2:(e.subs.map (gq v)).length<=1048576:=by rw [Qc];exact hsb
   have hO:=uf { e with own:=(bC e.own n).1,done:=jC e.done n,subs:=e.subs.map (gq v) } hdl2
   have hlen:(e.subs.map (gq v)).length=e.subs.length:=Qc ..
   generalize hDD:e.subs.map (gq v)=D at*
   clear hDD
   rw [<-hlen]
   refine qX ?_
   refine qK (hO) (qI 19 1++qI 10 4++qI 18 1++qI 15 1) ?_
   have honl:=mL D
   refine pB 7 hE (fun s (y:Nat×List LetterD)=>s.at (qU [0,1,2,1,8,2,12,87]) [(11,.sc (.int .i64 (y.1:Nat))),(7,.sc (.sl 17 0 y.2.length))] (s.hp.set 17 (some ⟨y.2.map LetterD.cs,19,36,true,true⟩))) (fun (y:Nat×List LetterD)=>y.1<=(jm D).length/\y.2.length<=y.1/\R=({ e with own:=(bC e.own n).1,done:=jC e.done n,subs:=D },y.2++((jm D).drop y.1).map fun k=>Bo n (bH D k))) (fun (y:Nat×List LetterD)=>(jm D).length - y.1) (0,[]) (qI 0 21) (⟨P9 _,P9 _,hR⟩) fun y hy N2 hN2=>?_
   obtain⟨q,l⟩:=y
   obtain⟨g1,g2,g3⟩:=hy
   dsimp only at g1 g2 g3
   refine qR ?_
   refine qB (fun b=>?_) fun b=>?_
   ·have hkq:=t7 b
    rw [zG b,Qr] at g3
    have hgq:=aC (enc:=ll) b
    generalize hk0:(jm D)[q]=k0 at*
    rw [bQ hkq] at g3
    have hgs:=aC (enc:=SubD.cs) hkq
    generalize hss:D[k0]=s0 at*
    have hB:=a_ s0.road { ac with kind:=10,sgn:=s0.give,id:=n }
    refine qX ?_
    refine qD [0,1,2,3,4,5,6,7,8,9] ?_
    try simp (disch:=omega) only [go_sem,seval,hgq,hk0,ll,hgs,hss]
    refine qG ?_
    refine qK (hB) [] ?_
    refine⟨qC,hN2 _ (q+1,l++[Bo n s0]) (qI 0 17++qI 23 1++qI 18 3) (by (try dsimp only);exact⟨zO,by simp;omega,by simpa using g3⟩) (by (try dsimp only);omega) (ae zF zF ?_)⟩
    refine qX ?_
    rw [Qe]
    rfl
   rw [P7 zO,Qs,Qi] at g3
   subst g3
   refine qX ?_
   exact cP (qI 0 7++qI 19 1++qI 10 4++qI 18 1++qI 15 1++qI 17 1)
  rw [hf (by rw [hok];simp [h2])]
  refine qX ?_
  exact cP (qI 0 7++qI 9 7++qI 17 1)
 rw [hf (by rw [hok];simp [h1])]
 refine qX ?_
 exact cP (qI 0 7++qI 9 7++qI 17 1)
theorem pj {α:Type} {p:α->Bool} {l:List α} {k:Nat} (h:k < l.length):(l.drop k).all p=(p l[k] && (l.drop (k+1)).all p):=by
 rw [zG h,Qo]
theorem yF {α β:Type} {f:α->List β} {l:List α} {k:Nat} (h:k < l.length):(l.drop k).flatMap f=f l[k]++(l.drop (k+1)).flatMap f:=by
 rw [zG h,Qu]
theorem pm (e:EndD) (s:SubD):(f8 e s).length<=1:=by
 rw [f8];split
 ·split
  ·simp
  split
  ·simp
  split<;>simp
 simp
theorem s9 {α β:Type} {f:α->List β} (hf:∀ a,(f a).length<=1):∀ (l:List α),(l.flatMap f).length<=l.length
 |[]=>by simp
 |a::l=>by
  have h1:=hf a
  have h2:=s9 hf l
  rw [Qu,Qb,Qh]
  omega
theorem rj (l:List HalfD) (n:Int):(co l n).length<=l.length:=Qf _ _
theorem nf (e:EndD):(df e).length<=e.own.length:=by
 rw [df];split
 ·rw [Qc];exact Qf _ _
 simp
theorem pn {e:EndD} (h:aq e=true) {k:Nat} (hk:k < e.subs.length):1<=e.subs[k].state/\e.subs[k].state<=4/\0<=e.subs[k].tries/\e.subs[k].tries<=1000000000:=by
 have h1:gw (dH e.subs) e.subs.length=true:=by
  simp only [aq,zk] at h
  simp_all
 have h2:=jS h1 hk
 simp only [dH,bQ hk,bU,fv,Qo,Qj,zk,decide_eq_true_eq] at h2
 omega
theorem KT {e:EndD} (h:IV e=false):tick e=(e,[]):=if_neg (by simp [h])
theorem Gl {e:EndD} (h:IV e=true) (h2:e.state=2):tick e=dM { nD e with subs:=e.subs.map dT } (e.subs.flatMap (f8 e)):=by rw [tick,if_pos h,if_pos h2]
theorem Gm {e:EndD} (h:IV e=true) (h2:¬ e.state=2):tick e=dM (nD e) []:=by rw [tick,if_pos h,if_neg h2]
theorem KU {e:EndD} {tk:SubD->SubD} {tl:SubD->List LetterD} (h:IV e=true) (h1:tk=fun s=>if e.state=2 then dT s else s) (h2:tl=fun s=>if e.state=2 then f8 e s else []):
  tick e=dM { e with now:=e.now+1,bucket:=dR e.bucket,halfs:=co e.halfs (e.now+1),out:=gK e.out,subs:=e.subs.map tk } (e.subs.flatMap tl):=by
 by_cases hs:e.state=2
 ·have a1:tk=dT:=by rw [h1];funext s;exact if_pos hs
  have a2:tl=f8 e:=by rw [h2];funext s;exact if_pos hs
  rw [Gl h hs,a1,a2];rfl
 have a1:tk=fun s=>s:=by rw [h1];funext s;exact if_neg hs
 have a2:tl=fun s=>[]:=by rw [h2];funext s;exact if_neg hs
 have e1:e.subs.flatMap (fun s:SubD=>([]:List LetterD))=[]:=by simp
 have e2:e.subs.map (fun s:SubD=>s)=e.subs:=by simp
 rw [Gm h hs,a1,a2,e1,e2];rfl
theorem KV {f:SubD->SubD} (h:∀ s,f s=s) (l:List SubD) (k:Nat):dD f l k=l:=by
 have hf:f=fun s=>s:=funext h
 rw [dD,hf];simp
theorem yG {s:SubD} (h:¬ (s.state=1\/s.state=2)):dT s=s:=if_neg h
theorem yH {e:EndD} {s:SubD} (h:¬ (s.state=1\/s.state=2)):f8 e s=[]:=if_neg h
theorem yI {s:SubD} (h:s.state=2) (h2:9<=s.tries+1):dT s={ s with tries:=s.tries+1,state:=4 }:=by rw [dT,if_pos (.inr h),if_pos ⟨h,h2⟩]
theorem yJ {e:EndD} {s:SubD} (h:s.state=2) (h2:9<=s.tries+1):f8 e s=[]:=by rw [f8,if_pos (.inr h),if_pos ⟨h,h2⟩]
theorem E0 {s:SubD} (h:s.state=1\/s.state=2) (h2:¬ (s.state=2/\9<=s.tries+1)):dT s={ s with tries:=s.tries+1 }:=by rw [dT,if_pos h,if_neg h2]
theorem yK {e:EndD} {s:SubD} (h:s.state=1\/s.state=2) (h2:¬ (s.state=2/\9<=s.tries+1)) (h3:¬ (s.tries+1).tmod 3=0):f8 e s=[]:=by rw [f8,if_pos h,if_neg h2,if_pos h3]
theorem Bx {e:EndD} {s:SubD} (h:s.state=1) (h3:(s.tries+1).tmod 3=0):f8 e s=[ia e s]:=by rw [f8,if_pos (.inl h),if_neg zO,if_neg (by simp [h3]),if_pos h]
theorem vx {e:EndD} {s:SubD} (h:s.state=2) (h2:¬ 9<=s.tries+1) (h3:(s.tries+1).tmod 3=0):f8 e s=[cF e s]:=by rw [f8,if_pos (.inr h),if_neg zO,if_neg (by simp [h3]),if_neg zO]
theorem s_ (e:EndD) (l:List LetterD) (hs:Small e) (ht:e.out.text.length<=1048576) (hl:l.length<=1048576):aP 145 [.ag (e.cs 0),.sc (.sl 7 0 l.length)] (e.hp true++[some ⟨l.map LetterD.cs,19,36,true,true⟩])
  (.tu [.ag ((dM e l).1.cs 8),.sc (.sl 15 0 (dM e l).2.length)]) ((nH 8)++((dM e l).1.hp true++[some ⟨(dM e l).2.map LetterD.cs,19,36,true,true⟩])):=by
 have hT:=yC e hs
 have hTl:=nf e
 have hso:=hs.own
 have hP:=qa e hs ht
 have hPl:=pc (k:=3) (e:=e)
 rw [dM]
 generalize df e=T at*
 generalize dP 3 e=Q at*
 obtain⟨e1,l1⟩:=Q
 dsimp only at hP hPl⊢
 refine ix func145 ntmps145 results145 fun E hE=>?_
 refine qK (hT) (qI 0 7) ?_
 refine qK (hP) (qI 0 7) ?_
 refine aR [(0,3)] [] [[1,2,0,3,4,5],[1,2,3,0,4,5]] 8 hE (fun s=>s.at (qU [1,1,7,6,15,6]) [(5,.sc (.sl 21 0 (l.length+T.length+l1.length)))] (((s.hp.set 9 (some ⟨[[.int .i64 e1.side,.int .i64 e1.state,.int .i64 e1.key,.int .i64 e1.peer,.int .i64 e1.policy.kind,.int .i64 e1.policy.many,.sl 12 0 e1.own.length,.sl 13 0 e1.far.length,.sl 14 0 e1.subs.length,.sl 15 0 e1.halfs.length,.int .i64 e1.bucket.rate,.int .i64 e1.bucket.burst,.int .i64 e1.bucket.cur,.st e1.out.text,.int .i64 e1.out.base,.int .i64 e1.out.sent,.int .i64 e1.out.room,.int .i64 e1.inp.read,.st e1.inp.ready,.sl 16 0 e1.inp.list.length,.sl 17 0 e1.done.length,.sl 18 0 e1.over.length,.int .i64 e1.draw,.int .i64 e1.now,.int .i64 e1.pick]],25,54,true,false⟩)).set 11 none)++[some ⟨(l++T++l1).map LetterD.cs,19,36,true,true⟩])) zXk (qC) zXk ?_ (ab 400 ?_)
 rotate_left
 rotate_right
 simp only [aM]
 refine⟨aa 400 ?_,aa 400 ?_⟩
 ·simp (disch:=omega) only [go_sem]
  refine⟨qC,(qI 0 22),ae zF zF ?_⟩
  try simp (disch:=omega) only [go_sem,seval]
  repeat' first|rfl|constructor|(intro _;rfl)|(simp only [Qe,Ql,Qb,Qz];done)
 ·simp (disch:=omega) only [go_sem]
  refine⟨qC,(qI 0 22),ae zF zF ?_⟩
  try simp (disch:=omega) only [go_sem,seval]
  repeat' first|rfl|constructor|(intro _;rfl)|(simp only [Qe,Ql,Qb,Qz];done)
 refine qX ?_
 refine aO (qI 0 8++qI 12 7++qI 21 1) (qC) _ zXg zF zF ?_
 simp (disch:=omega) only [go_sem,seval]
 try simp
 try omega
def mm (x:LetterD):List Int:=[x.key,x.nonce,x.give,x.sgn]
def lf (w:WorldD) (n:Int):Bool:=decide (n < 1000) || nF w.nums n
theorem tc (w:WorldD) (x:LetterD):eK w x=(cU x && !decide (bj x.to=0) && iX w.known x.tag && (mm x).all (lf w)):=rfl
theorem lg (w:WorldD) (x:LetterD) (h0:w.known.keys.length<=1048576) (h1:w.known.tags.length<=1048576) (h2:w.nums.length<=1048576):aP 103 [.ag (w.cs 0),.ag x.cs] (w.hp false) (.sc (.bo (eK w x))) (w.hp false):=by
 have hL:=bL x
 have hS:=fe x.to
 have hK:=sN w.known x.tag h0 h1
 obtain⟨R,hR⟩:∃ R,R=eK w x:=⟨_,rfl⟩
 rw [<-hR]
 rw [tc] at hR
 refine qE func103 ntmps103 results103 fun E hE=>?_
 refine qK (hL) [] ?_
 refine qB (fun c1=>?_) fun c1=>?_
 ·refine qK (hS) [] ?_
  refine qB (fun c2=>?_) fun c2=>?_
  ·refine qK (hK) (qI 16 2) ?_
   refine qB (fun c3=>?_) fun c3=>?_
   ·rw [c3] at hR
    simp only [Qk,P_] at hR
    subst hR
    refine qX ?_
    exact qF (qI 0 21)
   rw [c1,c3,decide_eq_false c2] at hR
   simp only [Qy,Qd,Qp] at hR
   refine qX ?_
   refine fJ 21 hE (fun s (i:Nat)=>s.at (qU [0,2,3,2,6,26,35,13]) [(34,.sc (.int .i64 (i:Nat)))] (s.hp)) (fun (i:Nat)=>i<=4/\R=((mm x).drop i).all (lf w)) (fun (i:Nat)=>4 - i) 0 (qI 0 24) (⟨zO,hR⟩) fun i hi N hN=>?_
   obtain⟨g1,g2⟩:=hi
   refine qR ?_
   split<;>rename_i b<;>(try simp only [decide_eq_true_eq,decide_eq_false_iff_not,Int.ofNat_lt] at b)
   rotate_left
   ·rw [P7 (by simp only [mm,Qh,Qm];omega),Qj] at g2
    subst g2
    refine qX ?_
    exact qF (qI 0 21)
   have hi4:i < (mm x).length:=by simp only [mm,Qh,Qm];omega
   rw [pj hi4] at g2
   generalize hv:(mm x)[i]=v at g2
   have hg:([[.int .i64 x.key],[.int .i64 x.nonce],[.int .i64 x.give],[.int .i64 x.sgn]]:List (List Sc))[i]? =some (bh v):=by
    rw [<-hv]
    rw [show ([[.int .i64 x.key],[.int .i64 x.nonce],[.int .i64 x.give],[.int .i64 x.sgn]]:List (List Sc))=(mm x).map bh from rfl]
    exact aC hi4
   simp only [bh] at hg
   have hH:=gH w.nums v h2
   try simp (disch:=omega) only [go_sem,seval,hg]
   refine qB (fun b1=>?_) fun b1=>?_
   ·refine qK (hH) (qI 18 1) ?_
    refine qB (fun b2=>?_) fun b2=>?_
    ·rw [show lf w v=false by rw [lf,b2,decide_eq_false zO];rfl,P_] at g2
     subst g2
     refine qX ?_
     exact qF (qI 0 21)
    rw [show lf w v=true by rw [lf,b2,QB],Qd] at g2
    refine qX ?_
    exact qN hN (i+1) (qI 0 24) (by (try dsimp only);exact⟨zO,g2⟩)
   rw [show lf w v=true by rw [lf,decide_eq_true zO];rfl,Qd] at g2
   refine qX ?_
   exact qN hN (i+1) (qI 0 24) (by (try dsimp only);exact⟨zO,g2⟩)
  rw [decide_eq_true c2] at hR
  simp only [QA,Qk,P_] at hR
  subst hR
  refine qX ?_
  exact qF (qI 0 21)
 rw [c1] at hR
 simp only [P_] at hR
 subst hR
 refine qX ?_
 exact qF (qI 0 21)
theorem yL (w:WorldD) (x:LetterD) (h0:w.known.keys.length<=1048576) (h1:w.known.tags.length<=1048576) (h2:w.nums.length<=1048576):aP 110 [.ag (w.cs 0),.ag x.cs] (w.hp false) (.sc (.bo (eK w x))) (w.hp false):=by
 have hL:=dq x
 have hS:=ff x.to
 have hK:=sO w.known x.tag h0 h1
 obtain⟨R,hR⟩:∃ R,R=eK w x:=⟨_,rfl⟩
 rw [<-hR]
 rw [tc] at hR
 refine qE func110 ntmps110 results110 fun E hE=>?_
 refine qK (hL) [] ?_
 refine qB (fun c1=>?_) fun c1=>?_
 ·refine qK (hS) [] ?_
  refine qB (fun c2=>?_) fun c2=>?_
  ·refine qK (hK) (qI 16 2) ?_
   refine qB (fun c3=>?_) fun c3=>?_
   ·rw [c3] at hR
    simp only [Qk,P_] at hR
    subst hR
    refine qX ?_
    exact qF (qI 0 21)
   rw [c1,c3,decide_eq_false c2] at hR
   simp only [Qy,Qd,Qp] at hR
   refine qX ?_
   refine fJ 21 hE (fun s (i:Nat)=>s.at (qU [0,2,3,2,7,47]) [(6,.sc (.int .i64 (i:Nat)))] (s.hp)) (fun (i:Nat)=>i<=4/\R=((mm x).drop i).all (lf w)) (fun (i:Nat)=>4 - i) 0 (qI 0 24) (⟨zO,hR⟩) fun i hi N hN=>?_
   obtain⟨g1,g2⟩:=hi
   refine qR ?_
   split<;>rename_i b<;>(try simp only [decide_eq_true_eq,decide_eq_false_iff_not,Int.ofNat_lt] at b)
   rotate_left
   ·rw [P7 (by simp only [mm,Qh,Qm];omega),Qj] at g2
    subst g2
    refine qX ?_
    exact qF (qI 0 21)
   have hi4:i < (mm x).length:=by simp only [mm,Qh,Qm];omega
   rw [pj hi4] at g2
   generalize hv:(mm x)[i]=v at g2
   have hg:([[.int .i64 x.key],[.int .i64 x.nonce],[.int .i64 x.give],[.int .i64 x.sgn]]:List (List Sc))[i]? =some (bh v):=by
    rw [<-hv]
    rw [show ([[.int .i64 x.key],[.int .i64 x.nonce],[.int .i64 x.give],[.int .i64 x.sgn]]:List (List Sc))=(mm x).map bh from rfl]
    exact aC hi4
   simp only [bh] at hg
   have hH:=iK w.nums v h2
   refine qX ?_
   refine qD [0,1,2,3,4,5,6,7,8,9,10,11,12,13,14] ?_
   try simp (disch:=omega) only [go_sem,seval,hg]
   refine qB (fun b1=>?_) fun b1=>?_
   ·try simp (disch:=omega) only [go_sem,seval,hg]
    refine aE (hH) (qI 18 1) ?_
    refine qG ?_
    refine qB (fun b2=>?_) fun b2=>?_
    ·rw [show lf w v=false by rw [lf,b2,decide_eq_false zO];rfl,P_] at g2
     subst g2
     refine qX ?_
     exact qF (qI 0 21)
    rw [show lf w v=true by rw [lf,b2,QB],Qd] at g2
    refine qX ?_
    exact qN hN (i+1) (qI 0 24) (by (try dsimp only);exact⟨zO,g2⟩)
   rw [show lf w v=true by rw [lf,decide_eq_true zO];rfl,Qd] at g2
   refine qG ?_
   exact qN hN (i+1) (qI 0 24) (by (try dsimp only);exact⟨zO,g2⟩)
  rw [decide_eq_true c2] at hR
  simp only [QA,Qk,P_] at hR
  subst hR
  refine qX ?_
  exact qF (qI 0 21)
 rw [c1] at hR
 simp only [P_] at hR
 subst hR
 refine qX ?_
 exact qF (qI 0 21)
def wroteB (w:WorldD) (side:Int) (t u:List UInt8):WorldD:=if side=1 then { w with wroteA:=w.wroteA++t,readA:=w.readA++u } else { w with wroteB:=w.wroteB++t,readB:=w.readB++u }
theorem E2 (w:WorldD) (side:Int) (t:List UInt8):wroteB w side t []=gr w side t:=by
 rw [wroteB,gr];split<;>simp
theorem E3 (w:WorldD) (side:Int) (t:List UInt8):wroteB w side [] t=dj w side t:=by
 rw [wroteB,dj];split<;>simp
structure SmallS (w:WorldD):Prop where
 wa:w.wroteA.length<=1099511627776
 wb:w.wroteB.length<=1099511627776
 ra:w.readA.length<=1099511627776
 rb:w.readB.length<=1099511627776
theorem jT (w:WorldD) (side:Int) (t u:List UInt8) (h:SmallS w) (ht:t.length<=1048576) (hu:u.length<=1048576):aP 170 [.ag (w.cs 0),.sc (.int .i64 side),.sc (.st t),.sc (.st u)] (w.hp false) (.ag ((wroteB w side t u).cs 0)) (w.hp false):=by
 have h1:=h.wa
 have h2:=h.wb
 have h3:=h.ra
 have h4:=h.rb
 obtain⟨R,hR⟩:∃ R,R=wroteB w side t u:=⟨_,rfl⟩
 rw [<-hR]
 rw [wroteB] at hR
 refine qE func170 ntmps170 results170 fun E hE=>?_
 refine qB (fun b=>?_) fun b=>?_
 ·rw [if_pos b] at hR
  subst hR
  refine qX ?_
  exact qF (qI 0 21)
 rw [if_neg b] at hR
 subst hR
 refine qX ?_
 exact qF (qI 0 21)
theorem vy (l:List LetterD) (k:Nat) (hl:l.length<=1048576) (hk:k < l.length):aP 182 [.sc (.sl 0 0 l.length),.sc (.int .i64 (k:Nat))] [some ⟨l.map LetterD.cs,19,36,false,true⟩] (.sc (.sl 1 0 (l.length - 1))) [some ⟨l.map LetterD.cs,19,36,false,true⟩,some ⟨(l.take k++l.drop (k+1)).map LetterD.cs,19,36,true,true⟩]:=by
 have hlt:(l.take k).length=k:=by simp;omega
 have hlt2:(List.take k (List.map LetterD.cs l)).length=k:=by simp;omega
 refine qE func182 ntmps182 results182 fun E hE=>?_
 refine qX ?_
 refine aj (qI 0 1++qI 3 1) (qC) _ zXg zF zF ?_
 simp (disch:=omega) only [go_sem,seval]
 try rw [<-List.map_take]
 exact⟨zO,(mh hk).2⟩
theorem BA (e:EndD) (hs:Small e) (ht:e.out.text.length<=1048576):aP 94 [.ag (e.cs 0)] (e.hp false) (.tu [.ag ((tick e).1.cs 7),.sc (.sl 14 0 (tick e).2.length)])
  (e.hp false++((tick e).1.hp true++[some ⟨(tick e).2.map LetterD.cs,19,36,true,true⟩])):=by
 have hC:=(qH (aG e))
 have hK:=(qH (bA e))
 have hsb:=hs.subs
 have hso:=hs.own
 have hsh:=hs.halfs
 have hF:=EO e.bucket
 have hY:=CU e.halfs (e.now+1) hs.halfs
 have hAn:=IW e.out
 have hyl:=rj e.halfs (e.now+1)
 have hat:(gK e.out).text.length<=1048576:=by rw [gK];split<;>exact ht
 have hf:=KT (e:=e)
 have hto:=Gl (e:=e)
 have hti:=Gm (e:=e)
 have htu:= @KU e
 have hok:IV e=(aq e && decide (e.now < 1000000000) && e.subs.all fun s=>decide (s.tries < 1000000000)):=rfl
 have hsm0:Small { e with now:=e.now+1,bucket:=dR e.bucket,halfs:=co e.halfs (e.now+1),out:=gK e.out }:=⟨hs.own,hs.far,hs.subs,by dsimp only;omega,hs.list,hs.done,hs.over⟩
 have hsm1:Small { e with now:=e.now+1,bucket:=dR e.bucket,halfs:=co e.halfs (e.now+1),out:=gK e.out,subs:=e.subs.map dT }:=⟨hs.own,hs.far,by dsimp only;rw [Qc];exact hs.subs,by dsimp only;omega,hs.list,hs.done,hs.over⟩
 have hfl:(e.subs.flatMap (f8 e)).length<=e.subs.length:=s9 (pm e) _
 obtain⟨R,hR⟩:∃ R,R=tick e:=⟨_,rfl⟩
 rw [<-hR] at hf hto hti
 simp only [<-hR] at htu
 rw [<-hR]
 clear hR
 refine ix func94 ntmps94 results94 fun E hE=>?_
 refine qK (hC) (qI 0 7) ?_
 refine qK (hK) (qI 0 7) ?_
 refine qB (fun h1=>?_) fun h1=>?_
 ·have hnow:=kG h1
  by_cases h2:e.now < 1000000000
  ·refine qX ?_
   refine pB 7 hE (fun s (i:Nat)=>s.at (qU [0,1,3,1,6,1,10,12,25,8]) [(24,.sc (.int .i64 (i:Nat)))] (s.hp)) (fun (i:Nat)=>i<=e.subs.length/\(e.subs.drop i).all (fun s=>decide (s.tries < 1000000000))=e.subs.all (fun s=>decide (s.tries < 1000000000))) (fun (i:Nat)=>e.subs.length - i) 0 (qI 0 17) (⟨P9 _,rfl⟩) fun i hi N hN=>?_
   obtain⟨g1,g2⟩:=hi
   refine qR ?_
   refine qB (fun b=>?_) fun b=>?_
   ·rw [pj b] at g2
    have hg:=aC (enc:=SubD.cs) b
    have hsub:=pn h1 b
    try simp (disch:=omega) only [go_sem,seval,hg]
    refine qB (fun b2=>?_) fun b2=>?_
    ·rw [decide_eq_false zO,P_] at g2
     rw [hf (by rw [hok,<-g2];simp)]
     refine qX ?_
     exact cP (qI 0 7++qI 9 7++qO 1)
    rw [decide_eq_true zO,Qd] at g2
    refine qX ?_
    exact Mc hN (i+1) (qI 0 17) (by (try dsimp only);exact⟨zO,g2⟩)
   rw [P7 zO,Qj] at g2
   have hall:=g2.symm
   have hall2:∀ (k:Nat) (hk:k < e.subs.length),e.subs[k].tries < 1000000000:=fun k hk=>by
    have:=List.all_eq_true.1 hall e.subs[k] (Qw hk)
    simpa using this
   have htk:IV e=true:=by rw [hok,h1,decide_eq_true h2,hall];rfl
   refine qX ?_
   refine qK (hF) [] ?_
   refine qK (hY) (qI 3 1) ?_
   refine qK (hAn) [] ?_
   by_cases h2s:e.state=2
   ·have hR:=hto htk h2s
    rw [nD] at hR
    obtain⟨LL,hLL⟩:∃ L,L=e.subs.flatMap (f8 e):=⟨_,rfl⟩
    rw [<-hLL] at hR hfl
    refine qX ?_
    refine gV 7 hE (fun s (y:Nat×List LetterD)=>s.at (qU [0,1,6,1,8,52,62,71]) [(61,.sc (.int .i64 (y.1:Nat))),(7,.sc (.sl 18 0 y.2.length))] ((s.hp.set 11 (some ⟨(dD dT e.subs y.1).map SubD.cs,10,115,true,true⟩))++[some ⟨y.2.map LetterD.cs,19,36,true,true⟩])) (fun (y:Nat×List LetterD)=>y.1<=e.subs.length/\y.2.length<=y.1/\LL=y.2++(e.subs.drop y.1).flatMap (f8 e)) (fun (y:Nat×List LetterD)=>e.subs.length - y.1) (0,[]) (qI 0 18++qO 1) (qC) (⟨P9 _,P9 _,hLL⟩) (ae zF zF ?_) fun y hy N2 hN2=>?_
    ·try simp (disch:=omega) only [go_sem,seval]
     try rw [nc]
    obtain⟨k,l⟩:=y
    obtain⟨f1,f2,f3⟩:=hy
    dsimp only at f1 f2 f3
    refine ab 400 ?_
    have hgl:(dD dT e.subs k).length=e.subs.length:=pf
    refine qX ?_
    refine qB (fun b=>?_) fun b=>?_
    ·have hg:=pg (f:=dT) b
     have hsub:=pn h1 b
     have htr:=hall2 k b
     rw [yF b] at f3
     have hset:=ph (f:=dT) b
     have hsame:=m_ (f:=dT) b
     obtain⟨s0,hs0⟩:∃ s,s=e.subs[k]:=⟨_,rfl⟩
     rw [<-hs0] at hsub htr f3 hset hsame
     have hg':∀ p:k < (dD dT e.subs k).length,(dD dT e.subs k)[k]'p=s0:=fun p=>by rw [hg p,hs0]
     clear hg
     by_cases c1:s0.state=1\/s0.state=2
     ·by_cases c2:s0.state=2/\9<=s0.tries+1
      ·have tS:=yI c2.1 c2.2
       rw [yJ c2.1 c2.2,Qq] at f3
       obtain⟨c3,c4⟩:=c2
       try simp (disch:=omega) only [go_sem,seval,hg',c3]
       refine⟨qC,hN2 _ (k+1,l) (qI 0 19) (by (try dsimp only);exact⟨zO,zO,f3⟩) (by (try dsimp only);omega) (ae zF zF ?_)⟩
       refine qX ?_
       rw [<-hset,tS,Qg]
       try simp [SubD.cs,c3]
      have tS:=E0 c1 c2
      by_cases c5:(s0.tries+1).tmod 3=0
      ·rcases c1 with c1|c1
       ·rw [Bx c1 c5] at f3
        have hL:aP 146 [.ag (EndD.cs e 0),.ag (SubD.cs { s0 with tries:=s0.tries+1,state:=1 })] (EndD.hp e false) (.ag (ia e s0).cs) (EndD.hp e false):=nE _ _ (show bU e.side 1 2=true from m7 h1)
        try simp (disch:=omega) only [go_sem,seval,hg',c1,c5]
        refine qD [0,1,2,3,4,5,6,7,8] ?_
        refine aE (hL) (qI 0 7) ?_
        refine qG ?_
        refine⟨qC,hN2 _ (k+1,l++[ia e s0]) (qI 0 18++qI 20 1) (by (try dsimp only);exact⟨zO,by simp;omega,by simpa using f3⟩) (by (try dsimp only);omega) (ae zF zF ?_)⟩
        refine qX ?_
        rw [<-hset,tS,Qg]
        try simp [SubD.cs,c1,LetterD.cs]
       rw [vx c1 zO c5] at f3
       have hL:aP 147 [.ag (EndD.cs e 0),.ag (SubD.cs { s0 with tries:=s0.tries+1,state:=2 })] (EndD.hp e false) (.ag (cF e s0).cs) (EndD.hp e false):=nB _ _
       try simp (disch:=omega) only [go_sem,seval,hg',c1,c5]
       refine qD [0,1,2,3,4,5,6,7,8] ?_
       refine aE (hL) (qI 0 7) ?_
       refine qG ?_
       refine⟨qC,hN2 _ (k+1,l++[cF e s0]) (qI 0 18++qI 20 1) (by (try dsimp only);exact⟨zO,by simp;omega,by simpa using f3⟩) (by (try dsimp only);omega) (ae zF zF ?_)⟩
       refine qX ?_
       rw [<-hset,tS,Qg]
       try simp [SubD.cs,c1,LetterD.cs]
      rw [yK c1 c2 c5,Qq] at f3
      have c6:0 < (s0.tries+1).tmod 3:=by have:=Int.tmod_nonneg 3 (show 0<=s0.tries+1 by omega);omega
      rcases c1 with c1|c1
      ·try simp (disch:=omega) only [go_sem,seval,hg',c1]
       refine⟨qC,hN2 _ (k+1,l) (qI 0 19) (by (try dsimp only);exact⟨zO,zO,f3⟩) (by (try dsimp only);omega) (ae zF zF ?_)⟩
       refine qX ?_
       rw [<-hset,tS,Qg]
       try simp [SubD.cs,c1]
      try simp (disch:=omega) only [go_sem,seval,hg',c1]
      refine⟨qC,hN2 _ (k+1,l) (qI 0 19) (by (try dsimp only);exact⟨zO,zO,f3⟩) (by (try dsimp only);omega) (ae zF zF ?_)⟩
      refine qX ?_
      rw [<-hset,tS,Qg]
      try simp [SubD.cs,c1]
     rw [yH c1,Qq] at f3
     try simp (disch:=omega) only [go_sem,seval,hg']
     refine⟨qC,hN2 _ (k+1,l) (qI 0 19) (by (try dsimp only);exact⟨zO,zO,f3⟩) (by (try dsimp only);omega) (ae zF zF ?_)⟩
     refine qX ?_
     rw [hsame (yG c1)]
    have hkl:k=e.subs.length:=zO
    subst hkl
    rw [P7 (Qn _),List.flatMap_nil,Qi] at f3
    subst f3
    rw [pi]
    have hTE:=s_ { e with now:=e.now+1,bucket:=dR e.bucket,halfs:=co e.halfs (e.now+1),out:=gK e.out,subs:=e.subs.map dT } LL hsm1 hat zO
    rw [<-hR] at hTE
    have hml:(e.subs.map dT).length=e.subs.length:=Qc ..
    refine qX ?_
    refine qK (hTE) (qI 9 3++qI 17 1++qI 13 3++qI 18 1) ?_
    exact cP (qI 0 7++qI 19 8)
   have hR:=hti htk h2s
   rw [nD] at hR
   have hTE:=s_ { e with now:=e.now+1,bucket:=dR e.bucket,halfs:=co e.halfs (e.now+1),out:=gK e.out } [] hsm0 hat zP
   rw [<-hR] at hTE
   refine qX ?_
   refine qK (hTE) (qI 9 3++qI 17 1++qI 13 3++qO 1) ?_
   exact cP (qI 0 7++qI 18 8)
  rw [hf (by rw [hok];simp [h2])]
  refine qX ?_
  exact cP (qI 0 7++qI 9 7++qO 1)
 rw [hf (by rw [hok];simp [h1])]
 refine qX ?_
 exact cP (qI 0 7++qI 9 7++qO 1)
theorem y5 (a:ActD):aP 55 [.ag a.cs] [] (.sc (.bo (dN a))) []:=by
 refine qE func55 ntmps55 results55 fun E hE=>?_
 refine qK (aS _ _ _) [] ?_
 refine qB (fun h1=>?_) fun h1=>?_
 ·refine qK (aS _ _ _) [] ?_
  refine qB (fun h2=>?_) fun h2=>?_
  ·refine qK (cI [a.pos,a.many] (by show 2<=1000000;decide)) (qI 1 1) ?_
   refine qB (fun h3=>?_) fun h3=>?_
   ·refine qJ [] ?_
    simp only [Qo,Qj,Qp,zk] at h3
    simp [dN,h1,h2,h3.1,h3.2]
    omega
   refine qJ [] ?_
   simp only [Qo,Qj,Qp] at h3
   simp only [dN,h3,Qk,P_]
  refine qJ [] ?_
  simp [dN,h1,h2]
 refine qJ [] ?_
 simp [dN,h1]
theorem y6 (a:ActD):aP 22 [.ag a.cs] [] (.sc (.bo (dN a))) []:=by
 refine qE func22 ntmps22 results22 fun E hE=>?_
 refine qK (aJ _ _ _) [] ?_
 refine qB (fun h1=>?_) fun h1=>?_
 ·refine qK (aJ _ _ _) [] ?_
  refine qB (fun h2=>?_) fun h2=>?_
  ·refine qK (aT _) [] ?_
   refine qB (fun h3=>?_) fun h3=>?_
   ·refine qK (aT _) [] ?_
    refine qB (fun h4=>?_) fun h4=>?_
    ·refine qJ [] ?_
     simp [dN,h1,h2,h3,h4]
     omega
    refine qJ [] ?_
    simp [dN,h1,h2,h3,h4]
   refine qJ [] ?_
   simp [dN,h1,h2,h3]
  refine qJ [] ?_
  simp [dN,h1,h2]
 refine qJ [] ?_
 simp [dN,h1]
theorem qe:aP 24 [] [] (.sc (.sl 0 0 13)) [some ⟨actTab.map aD,1,9,true,true⟩]:=by
 refine qE func24 ntmps24 results24 fun E hE=>?_
 refine qJ (qI 0 1) ?_
 rfl
theorem Dw (a:ActD):aP 23 [.ag a.cs] [] (.ag (cq a).cs) []:=by
 obtain⟨k,s,p,m,t,ad,le⟩:=a
 by_cases h1:k=1
 ·subst h1
  refine au func23 zXk rfl fun E hE=>ab 400 ?_
  simp (disch:=omega) only [ntmps23,results23,go_sem,Nat.reduceEqDiff,Nat.reduceAdd,Nat.reduceSub,Int.reduceAdd,Int.reduceSub,Int.reduceToNat]
  refine aj [] (qC) _ zXg zF zF ?_
  simp (disch:=omega) only [go_sem,Nat.reduceEqDiff,Nat.reduceAdd,Nat.reduceSub,Int.reduceAdd,Int.reduceSub,Int.reduceToNat]
  simp [cq,ah,ac]
 by_cases h2:k=2
 ·subst h2
  refine au func23 zXk rfl fun E hE=>ab 400 ?_
  simp (disch:=omega) only [ntmps23,results23,go_sem,Nat.reduceEqDiff,Nat.reduceAdd,Nat.reduceSub,Int.reduceAdd,Int.reduceSub,Int.reduceToNat]
  refine aj [] (qC) _ zXg zF zF ?_
  simp (disch:=omega) only [go_sem,Nat.reduceEqDiff,Nat.reduceAdd,Nat.reduceSub,Int.reduceAdd,Int.reduceSub,Int.reduceToNat]
  simp [cq,ah,ac]
 by_cases h3:k=3
 ·subst h3
  refine au func23 zXk rfl fun E hE=>ab 400 ?_
  simp (disch:=omega) only [ntmps23,results23,go_sem,Nat.reduceEqDiff,Nat.reduceAdd,Nat.reduceSub,Int.reduceAdd,Int.reduceSub,Int.reduceToNat]
  refine aj [] (qC) _ zXg zF zF ?_
  simp (disch:=omega) only [go_sem,Nat.reduceEqDiff,Nat.reduceAdd,Nat.reduceSub,Int.reduceAdd,Int.reduceSub,Int.reduceToNat]
  simp [cq,ah,ac]
 by_cases h4:k=4
 ·subst h4
  refine au func23 zXk rfl fun E hE=>ab 400 ?_
  simp (disch:=omega) only [ntmps23,results23,go_sem,Nat.reduceEqDiff,Nat.reduceAdd,Nat.reduceSub,Int.reduceAdd,Int.reduceSub,Int.reduceToNat]
  refine aj [] (qC) _ zXg zF zF ?_
  simp (disch:=omega) only [go_sem,Nat.reduceEqDiff,Nat.reduceAdd,Nat.reduceSub,Int.reduceAdd,Int.reduceSub,Int.reduceToNat]
  simp [cq,ah,ac]
 by_cases h5:k=5
 ·subst h5
  refine au func23 zXk rfl fun E hE=>ab 400 ?_
  simp (disch:=omega) only [ntmps23,results23,go_sem,Nat.reduceEqDiff,Nat.reduceAdd,Nat.reduceSub,Int.reduceAdd,Int.reduceSub,Int.reduceToNat]
  refine aj [] (qC) _ zXg zF zF ?_
  simp (disch:=omega) only [go_sem,Nat.reduceEqDiff,Nat.reduceAdd,Nat.reduceSub,Int.reduceAdd,Int.reduceSub,Int.reduceToNat]
  simp [cq,ah,ac]
 by_cases h11:k=11
 ·subst h11
  refine au func23 zXk rfl fun E hE=>ab 400 ?_
  simp (disch:=omega) only [ntmps23,results23,go_sem,Nat.reduceEqDiff,Nat.reduceAdd,Nat.reduceSub,Int.reduceAdd,Int.reduceSub,Int.reduceToNat]
  refine aj [] (qC) _ zXg zF zF ?_
  simp (disch:=omega) only [go_sem,Nat.reduceEqDiff,Nat.reduceAdd,Nat.reduceSub,Int.reduceAdd,Int.reduceSub,Int.reduceToNat]
  simp [cq,ah,ac]
 by_cases h0:k<=7
 ·refine au func23 zXk rfl fun E hE=>ab 400 ?_
  simp (disch:=omega) only [ntmps23,results23,go_sem,Nat.reduceEqDiff,Nat.reduceAdd,Nat.reduceSub,Int.reduceAdd,Int.reduceSub,Int.reduceToNat]
  refine aj [] (qC) _ zXg zF zF ?_
  simp (disch:=omega) only [go_sem,Nat.reduceEqDiff,Nat.reduceAdd,Nat.reduceSub,Int.reduceAdd,Int.reduceSub,Int.reduceToNat]
  simp [cq,ah,ac,h1,h2,h3,h4,h5,h11,h0]
 refine au func23 zXk rfl fun E hE=>ab 400 ?_
 simp (disch:=omega) only [ntmps23,results23,go_sem,Nat.reduceEqDiff,Nat.reduceAdd,Nat.reduceSub,Int.reduceAdd,Int.reduceSub,Int.reduceToNat]
 refine aj [] (qC) _ zXg zF zF ?_
 simp (disch:=omega) only [go_sem,Nat.reduceEqDiff,Nat.reduceAdd,Nat.reduceSub,Int.reduceAdd,Int.reduceSub,Int.reduceToNat]
 simp [cq,ah,ac,h1,h2,h3,h4,h5,h11,h0]
inductive mr:ActD->Prop
 |write (s:Int) (t:List UInt8):(1<=s/\s<=2)->t.length<=120->mr ⟨1,s,0,0,t,ah,ac⟩
 |read (s m:Int):(1<=s/\s<=2)->(0<=m/\m<=1000000000)->mr ⟨2,s,0,m,[],ah,ac⟩
 |tick (s:Int):(1<=s/\s<=2)->mr ⟨3,s,0,0,[],ah,ac⟩
 |manage (s:Int):(1<=s/\s<=2)->mr ⟨4,s,0,0,[],ah,ac⟩
 |addr (s i d:Int) (b:Bool):(1<=s/\s<=2)->mr ⟨5,s,0,0,[],⟨i,d,b,false⟩,ac⟩
 |drop (s n:Int):(1<=s/\s<=2)->(0<=n/\n<=1000000000)->mr ⟨6,s,n,0,[],ah,ac⟩
 |reset (s n:Int):(1<=s/\s<=2)->(0<=n/\n<=1000000000)->mr ⟨7,s,n,0,[],ah,ac⟩
 |deliver (n:Int):(0<=n/\n<=1000000000)->mr ⟨8,1,n,0,[],ah,ac⟩
 |lose (n:Int):(0<=n/\n<=1000000000)->mr ⟨9,1,n,0,[],ah,ac⟩
 |copy (n:Int):(0<=n/\n<=1000000000)->mr ⟨10,1,n,0,[],ah,ac⟩
 |inject (x:LetterD):mr ⟨11,1,0,0,[],ah,x⟩
 |again (n:Int):(0<=n/\n<=1000000000)->mr ⟨12,1,n,0,[],ah,ac⟩
theorem MW {a:ActD} (h:dN a=true) (htold:cq a=a):mr a:=by
 obtain⟨k,s,p,m,t,ad,le⟩:=a
 simp only [dN,bU,zk,decide_eq_true_eq,e_] at h
 obtain⟨⟨⟨hk,hs⟩,hp,hm⟩,ht⟩:=h
 replace hk:k=1\/k=2\/k=3\/k=4\/k=5\/k=6\/k=7\/k=8\/k=9\/k=10\/k=11\/k=12:=zO
 simp only [cq,ActD.mk.injEq] at htold
 obtain⟨_,e1,e2,e3,e4,e5,e6⟩:=htold
 try dsimp only at hs hp hm ht e1 e2 e3 e4 e5 e6
 rcases hk with rfl|rfl|rfl|rfl|rfl|rfl|rfl|rfl|rfl|rfl|rfl|rfl<;>simp at e1 e2 e3 e4 e5 e6<;>(try subst e1)<;>(try subst e2)<;>(try subst e3)<;>(try subst e4)<;>(try subst e5)<;>(try subst e6)
 ·exact .write _ _ hs ht
 ·exact .read _ _ hs hm
 ·exact .tick _ hs
 ·exact .manage _ hs
 ·obtain⟨i,d,b,td⟩:=ad
  simp only [AddrD.mk.injEq,true_and] at e5
  subst e5
  exact .addr _ _ _ _ hs
 ·exact .drop _ _ hs hp
 ·exact .reset _ _ hs hp
 ·exact .deliver _ hp
 ·exact .lose _ hp
 ·exact .copy _ hp
 ·exact .inject _
 exact .again _ hp
theorem nq {a:ActD} (h:¬ (dN a=true/\cq a=a)):bM a=[]:=by
 rw [bM,if_neg]
 intro hg
 simp only [actGood,zk,decide_eq_true_eq] at hg
 exact h hg.1
theorem Dy {a:ActD} (h:dN a=true) (ht:cq a=a):bM a=if aN a then bF [32] (actParts a) else []:=by
 simp only [bM,actGood,h,ht,decide_true,Qd]
theorem lL {n:Int} (h:0<=n/\n<=1000000000):bN n:=⟨zO,zO⟩
theorem lM {n:Int} (h:1<=n/\n<=2):bN n:=⟨zO,zO⟩
theorem Dz (a:ActD) (hw:a.wf):aP 8 [.ag a.cs] [] (.sc (.st (bM a))) []:=by
 have hT:=Dw a
 have hA:=y6 a
 have hW:=qe
 simp only [actTab,aD,Qr,Qs] at hW
 by_cases hok:dN a=true
 ·rw [hok] at hA
  by_cases ht:cq a=a
  ·have hal:=Dy hok ht
   generalize bM a=R at hal⊢
   have hc:=MW hok ht
   rw [ht] at hT
   clear ht hok
   cases hc with
   |write s t hs ht=>
    have d1:=bi (lM hs)
    have ns:fv s=true:=e_.2 zO
    have hx:=Cb t
    refine au func8 zXk rfl fun E hE=>ab 400 ?_
    simp (disch:=omega) only [ntmps8,results8,go_sem,Nat.reduceEqDiff,Nat.reduceAdd,Nat.reduceSub,Int.reduceAdd,Int.reduceSub,Int.reduceToNat]
    refine ao [0,1,2,3,4,6,5,7,8] zXk (qC) zXk (aa 400 ?_)
    simp (disch:=omega) only [go_sem,Nat.reduceEqDiff,Nat.reduceAdd,Nat.reduceSub,Int.reduceAdd,Int.reduceSub,Int.reduceToNat]
    refine ak (qC) (hA) [] qM zF zF (aa 400 ?_)
    simp (disch:=omega) only [go_sem,Nat.reduceEqDiff,Nat.reduceAdd,Nat.reduceSub,Int.reduceAdd,Int.reduceSub,Int.reduceToNat]
    refine ak (qC) (hT) [] qM zF zF (aa 400 ?_)
    simp (disch:=omega) only [go_sem,Nat.reduceEqDiff,Nat.reduceAdd,Nat.reduceSub,Int.reduceAdd,Int.reduceSub,Int.reduceToNat]
    refine⟨qC,ab 400 ?_⟩
    try simp (disch:=omega) only [go_sem,Nat.reduceEqDiff,Nat.reduceAdd,Nat.reduceSub,Int.reduceAdd,Int.reduceSub,Int.reduceToNat]
    refine ao [1,2,0,3,4,5] zXk (qC) zXk (aa 400 ?_)
    simp (disch:=omega) only [go_sem,Nat.reduceEqDiff,Nat.reduceAdd,Nat.reduceSub,Int.reduceAdd,Int.reduceSub,Int.reduceToNat]
    refine ak (qC) (hW) [] qM zF zF (aa 400 ?_)
    simp (disch:=omega) only [go_sem,Nat.reduceEqDiff,Nat.reduceAdd,Nat.reduceSub,Int.reduceAdd,Int.reduceSub,Int.reduceToNat]
    refine⟨qC,ab 400 ?_⟩
    try simp (disch:=omega) only [go_sem,Nat.reduceEqDiff,Nat.reduceAdd,Nat.reduceSub,Int.reduceAdd,Int.reduceSub,Int.reduceToNat]
    refine ai (qC) (az s (lM hs)) [] qM zF (ab 400 ?_)
    simp (disch:=omega) only [go_sem,Nat.reduceEqDiff,Nat.reduceAdd,Nat.reduceSub,Int.reduceAdd,Int.reduceSub,Int.reduceToNat]
    refine ai (qC) (D_ t) [] qM zF (ab 400 ?_)
    simp (disch:=omega) only [go_sem,Nat.reduceEqDiff,Nat.reduceAdd,Nat.reduceSub,Int.reduceAdd,Int.reduceSub,Int.reduceToNat]
    split<;>rename_i he<;>(try simp only [zR] at he)<;>simp (disch:=omega) only [go_sem,Nat.reduceEqDiff,Nat.reduceAdd,Nat.reduceSub,Int.reduceAdd,Int.reduceSub,Int.reduceToNat,he]<;>(try simp only [zQ] at he)<;>try simp (disch:=omega) only [go_sem,Nat.reduceEqDiff,Nat.reduceAdd,Nat.reduceSub,Int.reduceAdd,Int.reduceSub,Int.reduceToNat]
    ·refine aj [] (qC) _ zXg zF zF ?_
     simp (disch:=omega) only [go_sem,Nat.reduceEqDiff,Nat.reduceAdd,Nat.reduceSub,Int.reduceAdd,Int.reduceSub,Int.reduceToNat]
     simp [hal,aN,actParts,aU,cH,bF,b_,actTab,ns,pD,he]
    refine aj [] (qC) _ zXg zF zF ?_
    simp (disch:=omega) only [go_sem,Nat.reduceEqDiff,Nat.reduceAdd,Nat.reduceSub,Int.reduceAdd,Int.reduceSub,Int.reduceToNat]
    simp [hal,aN,actParts,aU,cH,bF,b_,actTab,ns,pD,he]
   |read s m hs hm=>
    have d1:=bi (lM hs)
    have ns:fv s=true:=e_.2 zO
    have d2:=bi (lL hm)
    have nm:fv m=true:=e_.2 hm
    refine au func8 zXk rfl fun E hE=>ab 400 ?_
    simp (disch:=omega) only [ntmps8,results8,go_sem,Nat.reduceEqDiff,Nat.reduceAdd,Nat.reduceSub,Int.reduceAdd,Int.reduceSub,Int.reduceToNat]
    refine ao [0,1,2,3,4,6,5,7,8] zXk (qC) zXk (aa 400 ?_)
    simp (disch:=omega) only [go_sem,Nat.reduceEqDiff,Nat.reduceAdd,Nat.reduceSub,Int.reduceAdd,Int.reduceSub,Int.reduceToNat]
    refine ak (qC) (hA) [] qM zF zF (aa 400 ?_)
    simp (disch:=omega) only [go_sem,Nat.reduceEqDiff,Nat.reduceAdd,Nat.reduceSub,Int.reduceAdd,Int.reduceSub,Int.reduceToNat]
    refine ak (qC) (hT) [] qM zF zF (aa 400 ?_)
    simp (disch:=omega) only [go_sem,Nat.reduceEqDiff,Nat.reduceAdd,Nat.reduceSub,Int.reduceAdd,Int.reduceSub,Int.reduceToNat]
    refine⟨qC,ab 400 ?_⟩
    try simp (disch:=omega) only [go_sem,Nat.reduceEqDiff,Nat.reduceAdd,Nat.reduceSub,Int.reduceAdd,Int.reduceSub,Int.reduceToNat]
    refine ao [1,2,0,3,4,5] zXk (qC) zXk (aa 400 ?_)
    simp (disch:=omega) only [go_sem,Nat.reduceEqDiff,Nat.reduceAdd,Nat.reduceSub,Int.reduceAdd,Int.reduceSub,Int.reduceToNat]
    refine ak (qC) (hW) [] qM zF zF (aa 400 ?_)
    simp (disch:=omega) only [go_sem,Nat.reduceEqDiff,Nat.reduceAdd,Nat.reduceSub,Int.reduceAdd,Int.reduceSub,Int.reduceToNat]
    refine⟨qC,ab 400 ?_⟩
    try simp (disch:=omega) only [go_sem,Nat.reduceEqDiff,Nat.reduceAdd,Nat.reduceSub,Int.reduceAdd,Int.reduceSub,Int.reduceToNat]
    refine ai (qC) (az s (lM hs)) [] qM zF (ab 400 ?_)
    simp (disch:=omega) only [go_sem,Nat.reduceEqDiff,Nat.reduceAdd,Nat.reduceSub,Int.reduceAdd,Int.reduceSub,Int.reduceToNat]
    refine ai (qC) (az m (lL hm)) [] qM zF (ab 400 ?_)
    simp (disch:=omega) only [go_sem,Nat.reduceEqDiff,Nat.reduceAdd,Nat.reduceSub,Int.reduceAdd,Int.reduceSub,Int.reduceToNat]
    refine aj [] (qC) _ zXg zF zF ?_
    simp (disch:=omega) only [go_sem,Nat.reduceEqDiff,Nat.reduceAdd,Nat.reduceSub,Int.reduceAdd,Int.reduceSub,Int.reduceToNat]
    simp [hal,aN,actParts,aU,cH,bF,b_,actTab,ns,nm]
   |tick s hs=>
    have d1:=bi (lM hs)
    have ns:fv s=true:=e_.2 zO
    refine au func8 zXk rfl fun E hE=>ab 400 ?_
    simp (disch:=omega) only [ntmps8,results8,go_sem,Nat.reduceEqDiff,Nat.reduceAdd,Nat.reduceSub,Int.reduceAdd,Int.reduceSub,Int.reduceToNat]
    refine ao [0,1,2,3,4,6,5,7,8] zXk (qC) zXk (aa 400 ?_)
    simp (disch:=omega) only [go_sem,Nat.reduceEqDiff,Nat.reduceAdd,Nat.reduceSub,Int.reduceAdd,Int.reduceSub,Int.reduceToNat]
    refine ak (qC) (hA) [] qM zF zF (aa 400 ?_)
    simp (disch:=omega) only [go_sem,Nat.reduceEqDiff,Nat.reduceAdd,Nat.reduceSub,Int.reduceAdd,Int.reduceSub,Int.reduceToNat]
    refine ak (qC) (hT) [] qM zF zF (aa 400 ?_)
    simp (disch:=omega) only [go_sem,Nat.reduceEqDiff,Nat.reduceAdd,Nat.reduceSub,Int.reduceAdd,Int.reduceSub,Int.reduceToNat]
    refine⟨qC,ab 400 ?_⟩
    try simp (disch:=omega) only [go_sem,Nat.reduceEqDiff,Nat.reduceAdd,Nat.reduceSub,Int.reduceAdd,Int.reduceSub,Int.reduceToNat]
    refine ao [1,2,0,3,4,5] zXk (qC) zXk (aa 400 ?_)
    simp (disch:=omega) only [go_sem,Nat.reduceEqDiff,Nat.reduceAdd,Nat.reduceSub,Int.reduceAdd,Int.reduceSub,Int.reduceToNat]
    refine ak (qC) (hW) [] qM zF zF (aa 400 ?_)
    simp (disch:=omega) only [go_sem,Nat.reduceEqDiff,Nat.reduceAdd,Nat.reduceSub,Int.reduceAdd,Int.reduceSub,Int.reduceToNat]
    refine⟨qC,ab 400 ?_⟩
    try simp (disch:=omega) only [go_sem,Nat.reduceEqDiff,Nat.reduceAdd,Nat.reduceSub,Int.reduceAdd,Int.reduceSub,Int.reduceToNat]
    refine ai (qC) (az s (lM hs)) [] qM zF (ab 400 ?_)
    simp (disch:=omega) only [go_sem,Nat.reduceEqDiff,Nat.reduceAdd,Nat.reduceSub,Int.reduceAdd,Int.reduceSub,Int.reduceToNat]
    refine aj [] (qC) _ zXg zF zF ?_
    simp (disch:=omega) only [go_sem,Nat.reduceEqDiff,Nat.reduceAdd,Nat.reduceSub,Int.reduceAdd,Int.reduceSub,Int.reduceToNat]
    simp [hal,aN,actParts,aU,cH,bF,b_,actTab,ns]
   |manage s hs=>
    have d1:=bi (lM hs)
    have ns:fv s=true:=e_.2 zO
    refine au func8 zXk rfl fun E hE=>ab 400 ?_
    simp (disch:=omega) only [ntmps8,results8,go_sem,Nat.reduceEqDiff,Nat.reduceAdd,Nat.reduceSub,Int.reduceAdd,Int.reduceSub,Int.reduceToNat]
    refine ao [0,1,2,3,4,6,5,7,8] zXk (qC) zXk (aa 400 ?_)
    simp (disch:=omega) only [go_sem,Nat.reduceEqDiff,Nat.reduceAdd,Nat.reduceSub,Int.reduceAdd,Int.reduceSub,Int.reduceToNat]
    refine ak (qC) (hA) [] qM zF zF (aa 400 ?_)
    simp (disch:=omega) only [go_sem,Nat.reduceEqDiff,Nat.reduceAdd,Nat.reduceSub,Int.reduceAdd,Int.reduceSub,Int.reduceToNat]
    refine ak (qC) (hT) [] qM zF zF (aa 400 ?_)
    simp (disch:=omega) only [go_sem,Nat.reduceEqDiff,Nat.reduceAdd,Nat.reduceSub,Int.reduceAdd,Int.reduceSub,Int.reduceToNat]
    refine⟨qC,ab 400 ?_⟩
    try simp (disch:=omega) only [go_sem,Nat.reduceEqDiff,Nat.reduceAdd,Nat.reduceSub,Int.reduceAdd,Int.reduceSub,Int.reduceToNat]
    refine ao [1,2,0,3,4,5] zXk (qC) zXk (aa 400 ?_)
    simp (disch:=omega) only [go_sem,Nat.reduceEqDiff,Nat.reduceAdd,Nat.reduceSub,Int.reduceAdd,Int.reduceSub,Int.reduceToNat]
    refine ak (qC) (hW) [] qM zF zF (aa 400 ?_)
    simp (disch:=omega) only [go_sem,Nat.reduceEqDiff,Nat.reduceAdd,Nat.reduceSub,Int.reduceAdd,Int.reduceSub,Int.reduceToNat]
    refine⟨qC,ab 400 ?_⟩
    try simp (disch:=omega) only [go_sem,Nat.reduceEqDiff,Nat.reduceAdd,Nat.reduceSub,Int.reduceAdd,Int.reduceSub,Int.reduceToNat]
    refine ai (qC) (az s (lM hs)) [] qM zF (ab 400 ?_)
    simp (disch:=omega) only [go_sem,Nat.reduceEqDiff,Nat.reduceAdd,Nat.reduceSub,Int.reduceAdd,Int.reduceSub,Int.reduceToNat]
    refine aj [] (qC) _ zXg zF zF ?_
    simp (disch:=omega) only [go_sem,Nat.reduceEqDiff,Nat.reduceAdd,Nat.reduceSub,Int.reduceAdd,Int.reduceSub,Int.reduceToNat]
    simp [hal,aN,actParts,aU,cH,bF,b_,actTab,ns]
   |drop s n hs hn=>
    have d1:=bi (lM hs)
    have ns:fv s=true:=e_.2 zO
    have d2:=bi (lL hn)
    have nn:fv n=true:=e_.2 hn
    refine au func8 zXk rfl fun E hE=>ab 400 ?_
    simp (disch:=omega) only [ntmps8,results8,go_sem,Nat.reduceEqDiff,Nat.reduceAdd,Nat.reduceSub,Int.reduceAdd,Int.reduceSub,Int.reduceToNat]
    refine ao [0,1,2,3,4,6,5,7,8] zXk (qC) zXk (aa 400 ?_)
    simp (disch:=omega) only [go_sem,Nat.reduceEqDiff,Nat.reduceAdd,Nat.reduceSub,Int.reduceAdd,Int.reduceSub,Int.reduceToNat]
    refine ak (qC) (hA) [] qM zF zF (aa 400 ?_)
    simp (disch:=omega) only [go_sem,Nat.reduceEqDiff,Nat.reduceAdd,Nat.reduceSub,Int.reduceAdd,Int.reduceSub,Int.reduceToNat]
    refine ak (qC) (hT) [] qM zF zF (aa 400 ?_)
    simp (disch:=omega) only [go_sem,Nat.reduceEqDiff,Nat.reduceAdd,Nat.reduceSub,Int.reduceAdd,Int.reduceSub,Int.reduceToNat]
    refine⟨qC,ab 400 ?_⟩
    try simp (disch:=omega) only [go_sem,Nat.reduceEqDiff,Nat.reduceAdd,Nat.reduceSub,Int.reduceAdd,Int.reduceSub,Int.reduceToNat]
    refine ao [1,2,0,3,4,5] zXk (qC) zXk (aa 400 ?_)
    simp (disch:=omega) only [go_sem,Nat.reduceEqDiff,Nat.reduceAdd,Nat.reduceSub,Int.reduceAdd,Int.reduceSub,Int.reduceToNat]
    refine ak (qC) (hW) [] qM zF zF (aa 400 ?_)
    simp (disch:=omega) only [go_sem,Nat.reduceEqDiff,Nat.reduceAdd,Nat.reduceSub,Int.reduceAdd,Int.reduceSub,Int.reduceToNat]
    refine⟨qC,ab 400 ?_⟩
    try simp (disch:=omega) only [go_sem,Nat.reduceEqDiff,Nat.reduceAdd,Nat.reduceSub,Int.reduceAdd,Int.reduceSub,Int.reduceToNat]
    refine ai (qC) (az s (lM hs)) [] qM zF (ab 400 ?_)
    simp (disch:=omega) only [go_sem,Nat.reduceEqDiff,Nat.reduceAdd,Nat.reduceSub,Int.reduceAdd,Int.reduceSub,Int.reduceToNat]
    refine ai (qC) (az n (lL hn)) [] qM zF (ab 400 ?_)
    simp (disch:=omega) only [go_sem,Nat.reduceEqDiff,Nat.reduceAdd,Nat.reduceSub,Int.reduceAdd,Int.reduceSub,Int.reduceToNat]
    refine aj [] (qC) _ zXg zF zF ?_
    simp (disch:=omega) only [go_sem,Nat.reduceEqDiff,Nat.reduceAdd,Nat.reduceSub,Int.reduceAdd,Int.reduceSub,Int.reduceToNat]
    simp [hal,aN,actParts,aU,cH,bF,b_,actTab,ns,nn]
   |reset s n hs hn=>
    have d1:=bi (lM hs)
    have ns:fv s=true:=e_.2 zO
    have d2:=bi (lL hn)
    have nn:fv n=true:=e_.2 hn
    refine au func8 zXk rfl fun E hE=>ab 400 ?_
    simp (disch:=omega) only [ntmps8,results8,go_sem,Nat.reduceEqDiff,Nat.reduceAdd,Nat.reduceSub,Int.reduceAdd,Int.reduceSub,Int.reduceToNat]
    refine ao [0,1,2,3,4,6,5,7,8] zXk (qC) zXk (aa 400 ?_)
    simp (disch:=omega) only [go_sem,Nat.reduceEqDiff,Nat.reduceAdd,Nat.reduceSub,Int.reduceAdd,Int.reduceSub,Int.reduceToNat]
    refine ak (qC) (hA) [] qM zF zF (aa 400 ?_)
    simp (disch:=omega) only [go_sem,Nat.reduceEqDiff,Nat.reduceAdd,Nat.reduceSub,Int.reduceAdd,Int.reduceSub,Int.reduceToNat]
    refine ak (qC) (hT) [] qM zF zF (aa 400 ?_)
    simp (disch:=omega) only [go_sem,Nat.reduceEqDiff,Nat.reduceAdd,Nat.reduceSub,Int.reduceAdd,Int.reduceSub,Int.reduceToNat]
    refine⟨qC,ab 400 ?_⟩
    try simp (disch:=omega) only [go_sem,Nat.reduceEqDiff,Nat.reduceAdd,Nat.reduceSub,Int.reduceAdd,Int.reduceSub,Int.reduceToNat]
    refine ao [1,2,0,3,4,5] zXk (qC) zXk (aa 400 ?_)
    simp (disch:=omega) only [go_sem,Nat.reduceEqDiff,Nat.reduceAdd,Nat.reduceSub,Int.reduceAdd,Int.reduceSub,Int.reduceToNat]
    refine ak (qC) (hW) [] qM zF zF (aa 400 ?_)
    simp (disch:=omega) only [go_sem,Nat.reduceEqDiff,Nat.reduceAdd,Nat.reduceSub,Int.reduceAdd,Int.reduceSub,Int.reduceToNat]
    refine⟨qC,ab 400 ?_⟩
    try simp (disch:=omega) only [go_sem,Nat.reduceEqDiff,Nat.reduceAdd,Nat.reduceSub,Int.reduceAdd,Int.reduceSub,Int.reduceToNat]
    refine ai (qC) (az s (lM hs)) [] qM zF (ab 400 ?_)
    simp (disch:=omega) only [go_sem,Nat.reduceEqDiff,Nat.reduceAdd,Nat.reduceSub,Int.reduceAdd,Int.reduceSub,Int.reduceToNat]
    refine ai (qC) (az n (lL hn)) [] qM zF (ab 400 ?_)
    simp (disch:=omega) only [go_sem,Nat.reduceEqDiff,Nat.reduceAdd,Nat.reduceSub,Int.reduceAdd,Int.reduceSub,Int.reduceToNat]
    refine aj [] (qC) _ zXg zF zF ?_
    simp (disch:=omega) only [go_sem,Nat.reduceEqDiff,Nat.reduceAdd,Nat.reduceSub,Int.reduceAdd,Int.reduceSub,Int.reduceToNat]
    simp [hal,aN,actParts,aU,cH,bF,b_,actTab,ns,nn]
   |deliver n hn=>
    have d2:=bi (lL hn)
    have ns:fv n=true:=e_.2 hn
    refine au func8 zXk rfl fun E hE=>ab 400 ?_
    simp (disch:=omega) only [ntmps8,results8,go_sem,Nat.reduceEqDiff,Nat.reduceAdd,Nat.reduceSub,Int.reduceAdd,Int.reduceSub,Int.reduceToNat]
    refine ao [0,1,2,3,4,6,5,7,8] zXk (qC) zXk (aa 400 ?_)
    simp (disch:=omega) only [go_sem,Nat.reduceEqDiff,Nat.reduceAdd,Nat.reduceSub,Int.reduceAdd,Int.reduceSub,Int.reduceToNat]
    refine ak (qC) (hA) [] qM zF zF (aa 400 ?_)
    simp (disch:=omega) only [go_sem,Nat.reduceEqDiff,Nat.reduceAdd,Nat.reduceSub,Int.reduceAdd,Int.reduceSub,Int.reduceToNat]
    refine ak (qC) (hT) [] qM zF zF (aa 400 ?_)
    simp (disch:=omega) only [go_sem,Nat.reduceEqDiff,Nat.reduceAdd,Nat.reduceSub,Int.reduceAdd,Int.reduceSub,Int.reduceToNat]
    refine⟨qC,ab 400 ?_⟩
    try simp (disch:=omega) only [go_sem,Nat.reduceEqDiff,Nat.reduceAdd,Nat.reduceSub,Int.reduceAdd,Int.reduceSub,Int.reduceToNat]
    refine ao [1,2,0,3,4,5] zXk (qC) zXk (aa 400 ?_)
    simp (disch:=omega) only [go_sem,Nat.reduceEqDiff,Nat.reduceAdd,Nat.reduceSub,Int.reduceAdd,Int.reduceSub,Int.reduceToNat]
    refine ak (qC) (hW) [] qM zF zF (aa 400 ?_)
    simp (disch:=omega) only [go_sem,Nat.reduceEqDiff,Nat.reduceAdd,Nat.reduceSub,Int.reduceAdd,Int.reduceSub,Int.reduceToNat]
    refine⟨qC,ab 400 ?_⟩
    try simp (disch:=omega) only [go_sem,Nat.reduceEqDiff,Nat.reduceAdd,Nat.reduceSub,Int.reduceAdd,Int.reduceSub,Int.reduceToNat]
    refine ai (qC) (az n (lL hn)) [] qM zF (ab 400 ?_)
    simp (disch:=omega) only [go_sem,Nat.reduceEqDiff,Nat.reduceAdd,Nat.reduceSub,Int.reduceAdd,Int.reduceSub,Int.reduceToNat]
    refine aj [] (qC) _ zXg zF zF ?_
    simp (disch:=omega) only [go_sem,Nat.reduceEqDiff,Nat.reduceAdd,Nat.reduceSub,Int.reduceAdd,Int.reduceSub,Int.reduceToNat]
    simp [hal,aN,actParts,aU,cH,bF,b_,actTab,ns]
   |lose n hn=>
    have d2:=bi (lL hn)
    have ns:fv n=true:=e_.2 hn
    refine au func8 zXk rfl fun E hE=>ab 400 ?_
    simp (disch:=omega) only [ntmps8,results8,go_sem,Nat.reduceEqDiff,Nat.reduceAdd,Nat.reduceSub,Int.reduceAdd,Int.reduceSub,Int.reduceToNat]
    refine ao [0,1,2,3,4,6,5,7,8] zXk (qC) zXk (aa 400 ?_)
    simp (disch:=omega) only [go_sem,Nat.reduceEqDiff,Nat.reduceAdd,Nat.reduceSub,Int.reduceAdd,Int.reduceSub,Int.reduceToNat]
    refine ak (qC) (hA) [] qM zF zF (aa 400 ?_)
    simp (disch:=omega) only [go_sem,Nat.reduceEqDiff,Nat.reduceAdd,Nat.reduceSub,Int.reduceAdd,Int.reduceSub,Int.reduceToNat]
    refine ak (qC) (hT) [] qM zF zF (aa 400 ?_)
    simp (disch:=omega) only [go_sem,Nat.reduceEqDiff,Nat.reduceAdd,Nat.reduceSub,Int.reduceAdd,Int.reduceSub,Int.reduceToNat]
    refine⟨qC,ab 400 ?_⟩
    try simp (disch:=omega) only [go_sem,Nat.reduceEqDiff,Nat.reduceAdd,Nat.reduceSub,Int.reduceAdd,Int.reduceSub,Int.reduceToNat]
    refine ao [1,2,0,3,4,5] zXk (qC) zXk (aa 400 ?_)
    simp (disch:=omega) only [go_sem,Nat.reduceEqDiff,Nat.reduceAdd,Nat.reduceSub,Int.reduceAdd,Int.reduceSub,Int.reduceToNat]
    refine ak (qC) (hW) [] qM zF zF (aa 400 ?_)
    simp (disch:=omega) only [go_sem,Nat.reduceEqDiff,Nat.reduceAdd,Nat.reduceSub,Int.reduceAdd,Int.reduceSub,Int.reduceToNat]
    refine⟨qC,ab 400 ?_⟩
    try simp (disch:=omega) only [go_sem,Nat.reduceEqDiff,Nat.reduceAdd,Nat.reduceSub,Int.reduceAdd,Int.reduceSub,Int.reduceToNat]
    refine ai (qC) (az n (lL hn)) [] qM zF (ab 400 ?_)
    simp (disch:=omega) only [go_sem,Nat.reduceEqDiff,Nat.reduceAdd,Nat.reduceSub,Int.reduceAdd,Int.reduceSub,Int.reduceToNat]
    refine aj [] (qC) _ zXg zF zF ?_
    simp (disch:=omega) only [go_sem,Nat.reduceEqDiff,Nat.reduceAdd,Nat.reduceSub,Int.reduceAdd,Int.reduceSub,Int.reduceToNat]
    simp [hal,aN,actParts,aU,cH,bF,b_,actTab,ns]
   |copy n hn=>
    have d2:=bi (lL hn)
    have ns:fv n=true:=e_.2 hn
    refine au func8 zXk rfl fun E hE=>ab 400 ?_
    simp (disch:=omega) only [ntmps8,results8,go_sem,Nat.reduceEqDiff,Nat.reduceAdd,Nat.reduceSub,Int.reduceAdd,Int.reduceSub,Int.reduceToNat]
    refine ao [0,1,2,3,4,6,5,7,8] zXk (qC) zXk (aa 400 ?_)
    simp (disch:=omega) only [go_sem,Nat.reduceEqDiff,Nat.reduceAdd,Nat.reduceSub,Int.reduceAdd,Int.reduceSub,Int.reduceToNat]
    refine ak (qC) (hA) [] qM zF zF (aa 400 ?_)
    simp (disch:=omega) only [go_sem,Nat.reduceEqDiff,Nat.reduceAdd,Nat.reduceSub,Int.reduceAdd,Int.reduceSub,Int.reduceToNat]
    refine ak (qC) (hT) [] qM zF zF (aa 400 ?_)
    simp (disch:=omega) only [go_sem,Nat.reduceEqDiff,Nat.reduceAdd,Nat.reduceSub,Int.reduceAdd,Int.reduceSub,Int.reduceToNat]
    refine⟨qC,ab 400 ?_⟩
    try simp (disch:=omega) only [go_sem,Nat.reduceEqDiff,Nat.reduceAdd,Nat.reduceSub,Int.reduceAdd,Int.reduceSub,Int.reduceToNat]
    refine ao [1,2,0,3,4,5] zXk (qC) zXk (aa 400 ?_)
    simp (disch:=omega) only [go_sem,Nat.reduceEqDiff,Nat.reduceAdd,Nat.reduceSub,Int.reduceAdd,Int.reduceSub,Int.reduceToNat]
    refine ak (qC) (hW) [] qM zF zF (aa 400 ?_)
    simp (disch:=omega) only [go_sem,Nat.reduceEqDiff,Nat.reduceAdd,Nat.reduceSub,Int.reduceAdd,Int.reduceSub,Int.reduceToNat]
    refine⟨qC,ab 400 ?_⟩
    try simp (disch:=omega) only [go_sem,Nat.reduceEqDiff,Nat.reduceAdd,Nat.reduceSub,Int.reduceAdd,Int.reduceSub,Int.reduceToNat]
    refine ai (qC) (az n (lL hn)) [] qM zF (ab 400 ?_)
    simp (disch:=omega) only [go_sem,Nat.reduceEqDiff,Nat.reduceAdd,Nat.reduceSub,Int.reduceAdd,Int.reduceSub,Int.reduceToNat]
    refine aj [] (qC) _ zXg zF zF ?_
    simp (disch:=omega) only [go_sem,Nat.reduceEqDiff,Nat.reduceAdd,Nat.reduceSub,Int.reduceAdd,Int.reduceSub,Int.reduceToNat]
    simp [hal,aN,actParts,aU,cH,bF,b_,actTab,ns]
   |again n hn=>
    have d2:=bi (lL hn)
    have ns:fv n=true:=e_.2 hn
    refine au func8 zXk rfl fun E hE=>ab 400 ?_
    simp (disch:=omega) only [ntmps8,results8,go_sem,Nat.reduceEqDiff,Nat.reduceAdd,Nat.reduceSub,Int.reduceAdd,Int.reduceSub,Int.reduceToNat]
    refine ao [0,1,2,3,4,6,5,7,8] zXk (qC) zXk (aa 400 ?_)
    simp (disch:=omega) only [go_sem,Nat.reduceEqDiff,Nat.reduceAdd,Nat.reduceSub,Int.reduceAdd,Int.reduceSub,Int.reduceToNat]
    refine ak (qC) (hA) [] qM zF zF (aa 400 ?_)
    simp (disch:=omega) only [go_sem,Nat.reduceEqDiff,Nat.reduceAdd,Nat.reduceSub,Int.reduceAdd,Int.reduceSub,Int.reduceToNat]
    refine ak (qC) (hT) [] qM zF zF (aa 400 ?_)
    simp (disch:=omega) only [go_sem,Nat.reduceEqDiff,Nat.reduceAdd,Nat.reduceSub,Int.reduceAdd,Int.reduceSub,Int.reduceToNat]
    refine⟨qC,ab 400 ?_⟩
    try simp (disch:=omega) only [go_sem,Nat.reduceEqDiff,Nat.reduceAdd,Nat.reduceSub,Int.reduceAdd,Int.reduceSub,Int.reduceToNat]
    refine ao [1,2,0,3,4,5] zXk (qC) zXk (aa 400 ?_)
    simp (disch:=omega) only [go_sem,Nat.reduceEqDiff,Nat.reduceAdd,Nat.reduceSub,Int.reduceAdd,Int.reduceSub,Int.reduceToNat]
    refine ak (qC) (hW) [] qM zF zF (aa 400 ?_)
    simp (disch:=omega) only [go_sem,Nat.reduceEqDiff,Nat.reduceAdd,Nat.reduceSub,Int.reduceAdd,Int.reduceSub,Int.reduceToNat]
    refine⟨qC,ab 400 ?_⟩
    try simp (disch:=omega) only [go_sem,Nat.reduceEqDiff,Nat.reduceAdd,Nat.reduceSub,Int.reduceAdd,Int.reduceSub,Int.reduceToNat]
    refine ai (qC) (az n (lL hn)) [] qM zF (ab 400 ?_)
    simp (disch:=omega) only [go_sem,Nat.reduceEqDiff,Nat.reduceAdd,Nat.reduceSub,Int.reduceAdd,Int.reduceSub,Int.reduceToNat]
    refine aj [] (qC) _ zXg zF zF ?_
    simp (disch:=omega) only [go_sem,Nat.reduceEqDiff,Nat.reduceAdd,Nat.reduceSub,Int.reduceAdd,Int.reduceSub,Int.reduceToNat]
    simp [hal,aN,actParts,aU,cH,bF,b_,actTab,ns]
   |inject x=>
    have hx:x.wf:=hw.2.2.2.2.2.2.2
    have hl:=nZ x
    have ns:fv 1=true:=by decide
    refine au func8 zXk rfl fun E hE=>ab 400 ?_
    simp (disch:=omega) only [ntmps8,results8,go_sem,Nat.reduceEqDiff,Nat.reduceAdd,Nat.reduceSub,Int.reduceAdd,Int.reduceSub,Int.reduceToNat]
    refine ao [0,1,2,3,4,6,5,7,8] zXk (qC) zXk (aa 400 ?_)
    simp (disch:=omega) only [go_sem,Nat.reduceEqDiff,Nat.reduceAdd,Nat.reduceSub,Int.reduceAdd,Int.reduceSub,Int.reduceToNat]
    refine ak (qC) (hA) [] qM zF zF (aa 400 ?_)
    simp (disch:=omega) only [go_sem,Nat.reduceEqDiff,Nat.reduceAdd,Nat.reduceSub,Int.reduceAdd,Int.reduceSub,Int.reduceToNat]
    refine ak (qC) (hT) [] qM zF zF (aa 400 ?_)
    simp (disch:=omega) only [go_sem,Nat.reduceEqDiff,Nat.reduceAdd,Nat.reduceSub,Int.reduceAdd,Int.reduceSub,Int.reduceToNat]
    refine⟨qC,ab 400 ?_⟩
    try simp (disch:=omega) only [go_sem,Nat.reduceEqDiff,Nat.reduceAdd,Nat.reduceSub,Int.reduceAdd,Int.reduceSub,Int.reduceToNat]
    refine ao [1,2,0,3,4,5] zXk (qC) zXk (aa 400 ?_)
    simp (disch:=omega) only [go_sem,Nat.reduceEqDiff,Nat.reduceAdd,Nat.reduceSub,Int.reduceAdd,Int.reduceSub,Int.reduceToNat]
    refine ak (qC) (hW) [] qM zF zF (aa 400 ?_)
    simp (disch:=omega) only [go_sem,Nat.reduceEqDiff,Nat.reduceAdd,Nat.reduceSub,Int.reduceAdd,Int.reduceSub,Int.reduceToNat]
    refine⟨qC,ab 400 ?_⟩
    try simp (disch:=omega) only [go_sem,Nat.reduceEqDiff,Nat.reduceAdd,Nat.reduceSub,Int.reduceAdd,Int.reduceSub,Int.reduceToNat]
    refine ai (qC) (nA x hx) [] qM zF (ab 400 ?_)
    simp (disch:=omega) only [go_sem,Nat.reduceEqDiff,Nat.reduceAdd,Nat.reduceSub,Int.reduceAdd,Int.reduceSub,Int.reduceToNat]
    split<;>rename_i he<;>(try simp only [zR] at he)<;>simp (disch:=omega) only [go_sem,Nat.reduceEqDiff,Nat.reduceAdd,Nat.reduceSub,Int.reduceAdd,Int.reduceSub,Int.reduceToNat,he]<;>(try simp only [zQ] at he)<;>try simp (disch:=omega) only [go_sem,Nat.reduceEqDiff,Nat.reduceAdd,Nat.reduceSub,Int.reduceAdd,Int.reduceSub,Int.reduceToNat]
    ·refine aj [] (qC) _ zXg zF zF ?_
     simp (disch:=omega) only [go_sem,Nat.reduceEqDiff,Nat.reduceAdd,Nat.reduceSub,Int.reduceAdd,Int.reduceSub,Int.reduceToNat]
     simp [hal,aN,actParts,aU,cH,bF,b_,actTab,ns,he]
    refine aj [] (qC) _ zXg zF zF ?_
    simp (disch:=omega) only [go_sem,Nat.reduceEqDiff,Nat.reduceAdd,Nat.reduceSub,Int.reduceAdd,Int.reduceSub,Int.reduceToNat]
    simp [hal,aN,actParts,aU,cH,bF,b_,actTab,ns,he]
   |addr s i d b hs=>
    have d1:=bi (lM hs)
    have ns:fv s=true:=e_.2 zO
    have wi:bN i:=hw.2.2.2.2.2.1
    have wd:bN d:=hw.2.2.2.2.2.2.1
    have d2:=bi wi
    have d3:=bi wd
    have d4:=bi (zu b)
    refine au func8 zXk rfl fun E hE=>ab 400 ?_
    simp (disch:=omega) only [ntmps8,results8,go_sem,Nat.reduceEqDiff,Nat.reduceAdd,Nat.reduceSub,Int.reduceAdd,Int.reduceSub,Int.reduceToNat]
    refine ao [0,1,2,3,4,6,5,7,8] zXk (qC) zXk (aa 400 ?_)
    simp (disch:=omega) only [go_sem,Nat.reduceEqDiff,Nat.reduceAdd,Nat.reduceSub,Int.reduceAdd,Int.reduceSub,Int.reduceToNat]
    refine ak (qC) (hA) [] qM zF zF (aa 400 ?_)
    simp (disch:=omega) only [go_sem,Nat.reduceEqDiff,Nat.reduceAdd,Nat.reduceSub,Int.reduceAdd,Int.reduceSub,Int.reduceToNat]
    refine ak (qC) (hT) [] qM zF zF (aa 400 ?_)
    simp (disch:=omega) only [go_sem,Nat.reduceEqDiff,Nat.reduceAdd,Nat.reduceSub,Int.reduceAdd,Int.reduceSub,Int.reduceToNat]
    refine⟨qC,ab 400 ?_⟩
    try simp (disch:=omega) only [go_sem,Nat.reduceEqDiff,Nat.reduceAdd,Nat.reduceSub,Int.reduceAdd,Int.reduceSub,Int.reduceToNat]
    refine ao [1,2,0,3,4,5] zXk (qC) zXk (aa 400 ?_)
    simp (disch:=omega) only [go_sem,Nat.reduceEqDiff,Nat.reduceAdd,Nat.reduceSub,Int.reduceAdd,Int.reduceSub,Int.reduceToNat]
    refine ak (qC) (hW) [] qM zF zF (aa 400 ?_)
    simp (disch:=omega) only [go_sem,Nat.reduceEqDiff,Nat.reduceAdd,Nat.reduceSub,Int.reduceAdd,Int.reduceSub,Int.reduceToNat]
    refine⟨qC,ab 400 ?_⟩
    try simp (disch:=omega) only [go_sem,Nat.reduceEqDiff,Nat.reduceAdd,Nat.reduceSub,Int.reduceAdd,Int.reduceSub,Int.reduceToNat]
    refine ai (qC) (az s (lM hs)) [] qM zF (ab 400 ?_)
    simp (disch:=omega) only [go_sem,Nat.reduceEqDiff,Nat.reduceAdd,Nat.reduceSub,Int.reduceAdd,Int.reduceSub,Int.reduceToNat]
    refine ai (qC) (aT i) [] qM zF (ab 400 ?_)
    simp (disch:=omega) only [go_sem,Nat.reduceEqDiff,Nat.reduceAdd,Nat.reduceSub,Int.reduceAdd,Int.reduceSub,Int.reduceToNat]
    split<;>rename_i hi<;>(try simp only [zR] at hi)<;>simp (disch:=omega) only [go_sem,Nat.reduceEqDiff,Nat.reduceAdd,Nat.reduceSub,Int.reduceAdd,Int.reduceSub,Int.reduceToNat,hi]<;>(try simp only [zQ] at hi)<;>try simp (disch:=omega) only [go_sem,Nat.reduceEqDiff,Nat.reduceAdd,Nat.reduceSub,Int.reduceAdd,Int.reduceSub,Int.reduceToNat]
    ·refine ai (qC) (aT d) [] qM zF (ab 400 ?_)
     simp (disch:=omega) only [go_sem,Nat.reduceEqDiff,Nat.reduceAdd,Nat.reduceSub,Int.reduceAdd,Int.reduceSub,Int.reduceToNat]
     split<;>rename_i hd<;>(try simp only [zR] at hd)<;>simp (disch:=omega) only [go_sem,Nat.reduceEqDiff,Nat.reduceAdd,Nat.reduceSub,Int.reduceAdd,Int.reduceSub,Int.reduceToNat,hd]<;>(try simp only [zQ] at hd)<;>try simp (disch:=omega) only [go_sem,Nat.reduceEqDiff,Nat.reduceAdd,Nat.reduceSub,Int.reduceAdd,Int.reduceSub,Int.reduceToNat]
     ·refine aj [] (qC) _ zXg zF zF ?_
      simp (disch:=omega) only [go_sem,Nat.reduceEqDiff,Nat.reduceAdd,Nat.reduceSub,Int.reduceAdd,Int.reduceSub,Int.reduceToNat]
      simp [hal,aN,actParts,aU,cH,bF,b_,actTab,ns,hi,hd]
     refine ao (qU [0,5,8,3,14,3,5,3,11,3,17,4]) zXk (qC) zXk (aa 400 ?_)
     simp (disch:=omega) only [go_sem,Nat.reduceEqDiff,Nat.reduceAdd,Nat.reduceSub,Int.reduceAdd,Int.reduceSub,Int.reduceToNat]
     refine ak (qC) (az i wi) [] qM zF zF (aa 400 ?_)
     simp (disch:=omega) only [go_sem,Nat.reduceEqDiff,Nat.reduceAdd,Nat.reduceSub,Int.reduceAdd,Int.reduceSub,Int.reduceToNat]
     refine ak (qC) (az d wd) [] qM zF zF (aa 400 ?_)
     simp (disch:=omega) only [go_sem,Nat.reduceEqDiff,Nat.reduceAdd,Nat.reduceSub,Int.reduceAdd,Int.reduceSub,Int.reduceToNat]
     refine ak (qC) (rU b) [] qM zF zF (aa 400 ?_)
     simp (disch:=omega) only [go_sem,Nat.reduceEqDiff,Nat.reduceAdd,Nat.reduceSub,Int.reduceAdd,Int.reduceSub,Int.reduceToNat]
     refine ak (qC) (az (cond b 1 0) (zu b)) [] qM zF zF (aa 400 ?_)
     simp (disch:=omega) only [go_sem,Nat.reduceEqDiff,Nat.reduceAdd,Nat.reduceSub,Int.reduceAdd,Int.reduceSub,Int.reduceToNat]
     refine⟨qC,ab 400 ?_⟩
     try simp (disch:=omega) only [go_sem,Nat.reduceEqDiff,Nat.reduceAdd,Nat.reduceSub,Int.reduceAdd,Int.reduceSub,Int.reduceToNat]
     refine aj [] (qC) _ zXg zF zF ?_
     simp (disch:=omega) only [go_sem,Nat.reduceEqDiff,Nat.reduceAdd,Nat.reduceSub,Int.reduceAdd,Int.reduceSub,Int.reduceToNat]
     simp [hal,aN,actParts,aU,cH,bF,b_,actTab,ns,hi,hd]
    refine aj [] (qC) _ zXg zF zF ?_
    simp (disch:=omega) only [go_sem,Nat.reduceEqDiff,Nat.reduceAdd,Nat.reduceSub,Int.reduceAdd,Int.reduceSub,Int.reduceToNat]
    simp [hal,aN,actParts,aU,cH,bF,b_,actTab,ns,hi]
  have hcmp:cS (cq a).cs a.cs=false:=by rw [ActD.cmp];simpa using ht
  rw [nq (fun h=>ht h.2)]
  generalize cq a=u at*
  simp only [go_sem] at hcmp
  refine au func8 zXk rfl fun E hE=>ab 400 ?_
  simp (disch:=omega) only [ntmps8,results8,go_sem,Nat.reduceEqDiff,Nat.reduceAdd,Nat.reduceSub,Int.reduceAdd,Int.reduceSub,Int.reduceToNat]
  refine ao [0,1,2,3,4,6,5,7,8] zXk (qC) zXk (aa 400 ?_)
  simp (disch:=omega) only [go_sem,Nat.reduceEqDiff,Nat.reduceAdd,Nat.reduceSub,Int.reduceAdd,Int.reduceSub,Int.reduceToNat]
  refine ak (qC) (hA) [] qM zF zF (aa 400 ?_)
  simp (disch:=omega) only [go_sem,Nat.reduceEqDiff,Nat.reduceAdd,Nat.reduceSub,Int.reduceAdd,Int.reduceSub,Int.reduceToNat]
  refine ak (qC) (hT) [] qM zF zF (aa 400 ?_)
  simp (disch:=omega) only [go_sem,Nat.reduceEqDiff,Nat.reduceAdd,Nat.reduceSub,Int.reduceAdd,Int.reduceSub,Int.reduceToNat]
  refine⟨qC,ab 400 ?_⟩
  try simp (disch:=omega) only [go_sem,Nat.reduceEqDiff,Nat.reduceAdd,Nat.reduceSub,Int.reduceAdd,Int.reduceSub,Int.reduceToNat,hcmp]
  refine aj [] (qC) _ zXg zF zF ?_
  simp (disch:=omega) only [go_sem,Nat.reduceEqDiff,Nat.reduceAdd,Nat.reduceSub,Int.reduceAdd,Int.reduceSub,Int.reduceToNat]
 have hok':dN a=false:=by simpa using hok
 rw [hok'] at hA
 rw [nq (fun h=>hok h.1)]
 refine au func8 zXk rfl fun E hE=>ab 400 ?_
 simp (disch:=omega) only [ntmps8,results8,go_sem,Nat.reduceEqDiff,Nat.reduceAdd,Nat.reduceSub,Int.reduceAdd,Int.reduceSub,Int.reduceToNat]
 refine ao [0,1,2,3,4,6,5,7,8] zXk (qC) zXk (aa 400 ?_)
 simp (disch:=omega) only [go_sem,Nat.reduceEqDiff,Nat.reduceAdd,Nat.reduceSub,Int.reduceAdd,Int.reduceSub,Int.reduceToNat]
 refine ak (qC) (hA) [] qM zF zF (aa 400 ?_)
 simp (disch:=omega) only [go_sem,Nat.reduceEqDiff,Nat.reduceAdd,Nat.reduceSub,Int.reduceAdd,Int.reduceSub,Int.reduceToNat]
 refine⟨qC,ab 400 ?_⟩
 try simp (disch:=omega) only [go_sem,Nat.reduceEqDiff,Nat.reduceAdd,Nat.reduceSub,Int.reduceAdd,Int.reduceSub,Int.reduceToNat]
 refine aj [] (qC) _ zXg zF zF ?_
 simp (disch:=omega) only [go_sem,Nat.reduceEqDiff,Nat.reduceAdd,Nat.reduceSub,Int.reduceAdd,Int.reduceSub,Int.reduceToNat]
def jK (w:List UInt8):Nat->Int
 |0=>0
 |n+1=>if w=actTab.getD (n+1) [] then ((n+1:Nat):Int) else jK w n
theorem BR (w:List UInt8):jK w 12=kindOf w:=by
 simp only [jK,kindOf]
 rfl
theorem uE (w:List UInt8):∀ n:Nat,0<=jK w n/\jK w n<=n
 |0=>⟨Int.le_refl _,Int.le_refl _⟩
 |n+1=>by
  rw [jK]
  have:=uE w n
  split<;>omega
theorem tA (l:List (List UInt8)) (n:Nat):bN (cZ l n):=by
 rw [cZ]
 split
 ·exact qm _
 exact⟨by decide,by decide⟩
theorem H4 {s:List UInt8}:∀ {l:List (List UInt8)},s∈l->s.length<=tot l
 |[],h=>by simp at h
 |x::r,h=>by
  have e:tot (x::r)=x.length+tot r:=by simp [tot]
  rw [e]
  rcases List.mem_cons.1 h with rfl|h
  ·omega
  have:=H4 h
  omega
theorem oP (l:List (List UInt8)) (k:Nat):(l.getD k []).length<=tot l:=by
 rw [P6]
 cases h:l[k]? with
 |none=>simp
 |some s=>exact H4 (List.mem_of_getElem? h)
theorem eS:ac.wf:=by
 refine⟨?_,?_,?_,?_,?_,?_,?_,?_,?_,?_,?_,?_,?_,?_,?_,?_,?_,?_⟩<;>first|exact⟨by decide,by decide⟩|decide
theorem Lz {s:List UInt8} (h:s.length<=1048576):(wo s).1.wf:=by
 have hm:(1048576:Nat)<=maxLen:=by decide
 rw [wo]
 split
 ·rename_i hc
  cases hr:br ((d9 44 s).take 18) with
  |none=>exact eS
  |some n=>
   rw [Cc]
   split
   ·refine xo (mb hr) _ ?_
    have h18:18 < (d9 44 s).length:=zO
    have h1:=oN ((d9 44 s).getD 18 [])
    have h2:((d9 44 s).getD 18 []).length<=s.length:=by
     rw [P6,P8 h18]
     exact zq s _ (Qw h18)
    try dsimp only
    omega
   exact eS
 exact eS
theorem iD {k s p m i d:Int} {t:List UInt8} {b1 b2:Bool} {x:LetterD} (h1:bN k) (h2:bN s) (h3:bN p) (h4:bN m) (h5:t.length<=maxLen) (h6:bN i) (h7:bN d) (hx:x.wf):ActD.wf ⟨k,s,p,m,t,⟨i,d,b1,b2⟩,x⟩:=⟨h1,h2,h3,h4,h5,h6,h7,hx⟩
theorem MX {p:List (List UInt8)} (hp:tot p<=600):(selA p).wf:=by
 have z:bN 0:=⟨by decide,by decide⟩
 have hk:bN (kindOf (p.getD 0 [])):=by
  have:=uE (p.getD 0 []) 12
  rw [BR] at this
  exact⟨zO,zO⟩
 have hs:bN (if 1<=kindOf (p.getD 0 [])/\kindOf (p.getD 0 [])<=7 then cZ p 1 else 1):=by
  split
  ·exact tA _ _
  exact⟨by decide,by decide⟩
 have n1:=tA p 1
 have n2:=tA p 2
 have n3:=tA p 3
 have hm:(600:Nat)<=maxLen:=by decide
 have t0:([]:List UInt8).length<=maxLen:=by simp
 have ht:(if 2 < p.length then (ee (p.getD 2 [])).1 else []).length<=maxLen:=by
  split
  ·have h1:=oN (p.getD 2 [])
   have h2:=oP p 2
   omega
  simp
 have hx:(wo (p.getD 1 [])).1.wf:=Lz (by have:=oP p 1;omega)
 simp only [selA]
 generalize (if 1<=kindOf (p.getD 0 [])/\kindOf (p.getD 0 [])<=7 then cZ p 1 else 1)=s at hs⊢
 generalize (if 2 < p.length then (ee (p.getD 2 [])).1 else [])=t at ht⊢
 (repeat' split)<;>first|exact iD hk hs z z ht z z eS|exact iD hk hs z n2 t0 z z eS|exact iD hk hs z z t0 n2 n3 eS|exact iD hk hs n2 z t0 z z eS|exact iD hk hs z z t0 z z hx|exact iD hk hs n1 z t0 z z eS|exact iD hk hs z z t0 z z eS
theorem DC (l:List UInt8):aP 40 [.sc (.st l)] [] (.tu [.ag (lx l).1.cs,.sc (.bo (lx l).2)]) []:=by
 obtain⟨R,hR⟩:∃ R,R=lx l:=⟨_,rfl⟩
 rw [<-hR]
 have hP:=mJ l
 have hW:=qe
 obtain⟨ht1,ht2⟩:=gC l
 have ht3:=jZ l
 rw [lx] at hR
 generalize bm l=q at*
 obtain⟨p,ok⟩:=q
 dsimp only at hR hP ht1 ht2 ht3
 have hS:=kp p zO zO
 have hAL:=Dz (selA p) (MX ht1)
 have hN:=fun n:Nat=>uY p n zO
 have hN1:=hN 1
 have hN2:=hN 2
 have hN3:=hN 3
 have hN4:=hN 4
 simp only [D2,D3] at hN1 hN2 hN3 hN4
 refine qE func40 ntmps40 results40 fun E hE=>?_
 refine qK (hP) [] ?_
 cases ok with
 |false=>
  rw [if_neg zP] at hR
  subst hR
  refine qX ?_
  refine qJ [] ?_
  simp [bw,ah,ac]
 |true=>
  refine qX ?_
  refine qB (fun h2=>?_) fun h2=>?_
  ·rw [if_neg zS] at hR
   subst hR
   refine qJ [] ?_
   simp [bw,ah,ac]
  have hlen:2<=p.length:=zO
  have h0p:0 < p.length:=zO
  obtain⟨w,hw⟩:∃ w,w=p.getD 0 []:=⟨_,rfl⟩
  have hw0:p[0]=w:=by rw [hw,P6,P8 h0p];rfl
  have h13:actTab.length=13:=rfl
  refine qK (hW) [] ?_
  refine dI 0 hE (fun s (k:Nat)=>s.at (qU [0,1,5,1,9,31]) [(8,.sc (.int .i64 (k:Nat)))] (s.hp.set 3 (some ⟨[(bx (jK w (k - 1)) 1).cs],28,38,true,false⟩))) (fun (k:Nat)=>1<=k/\k<=13) (fun (k:Nat)=>13 - k) 1 (qI 0 4) (qC) (⟨zO,zO⟩) (aw zF zF ?_) fun k hk N hN=>?_
  ·try simp (disch:=omega) only [go_sem,seval,bx,ah,ac]
   rfl
  obtain⟨hk1,hk2⟩:=hk
  refine ab 400 ?_
  try simp (disch:=omega) only [go_sem,seval,bx,ah,ac]
  refine qB (fun h3=>?_) fun h3=>?_
  ·obtain⟨j,rfl⟩:∃ j,k=j+1:=⟨k - 1,zO⟩
   have hj:j+1 < actTab.length:=zO
   have e0:actTab.getD (j+1) []=actTab[j+1]:=by rw [P6,P8 hj];rfl
   refine qD [0,1,2,3,4,5,6,7] ?_
   try simp (disch:=omega) only [go_sem,seval,hw0,aD]
   refine⟨qC,ab 400 ?_⟩
   try simp (disch:=omega) only [go_sem,seval,hw0,aD]
   refine qB (fun h4=>?_) fun h4=>?_
   ·have e1:jK w (j+1)=((j+1:Nat):Int):=by rw [jK,if_pos (by rw [e0,h4])]
    refine⟨qC,hN _ (j+1+1) (qI 0 4) (by (try dsimp only);exact⟨zO,zO⟩) (by (try dsimp only);omega) (aw zF zF ?_)⟩
    try simp (disch:=omega) only [go_sem,seval,bx,ah,ac,e1,Qt]
   have e1:jK w (j+1)=jK w j:=by rw [jK,if_neg (by rw [e0];exact fun h=>h4 h.symm)]
   refine⟨qC,hN _ (j+1+1) (qI 0 4) (by (try dsimp only);exact⟨zO,zO⟩) (by (try dsimp only);omega) (aw zF zF ?_)⟩
   try simp (disch:=omega) only [go_sem,seval,bx,ah,ac,e1,Qt]
  obtain rfl:k=13:=zO
  have hK:=BR w
  have hKb:=uE w 12
  rw [show (13:Nat) - 1=12 from rfl]
  generalize jK w 12=K at*
  refine qK (aJ K 1 7) [] ?_
  rw [hw] at hK
  clear hw0 hw
  rcases (by omega:K=0\/K=1\/K=2\/K=3\/K=4\/K=5\/K=6\/K=7\/K=8\/K=9\/K=10\/K=11\/K=12) with rfl|rfl|rfl|rfl|rfl|rfl|rfl|rfl|rfl|rfl|rfl|rfl|rfl
  ·have hin:bU 0 1 7=false:=by decide
   try simp (disch:=omega) only [go_sem,seval,hin]
   have e:selA p=⟨0,1,0,0,[],ah,ac⟩:=by simp only [selA,<-hK];simp
   rw [e] at hAL hR
   generalize bM _=L at hAL hR
   refine qK (hAL) [] ?_
   refine qB (fun h5=>?_) fun h5=>?_
   ·refine qK (hAL) [] ?_
    refine qK (hS) (qI 1 1) ?_
    refine qB (fun h6=>?_) fun h6=>?_
    ·rw [if_neg (by rintro⟨_,_,_,hh⟩;exact h6 hh)] at hR
     subst hR
     refine qJ [] ?_
     simp [bw,ah,ac]
    rw [if_pos ⟨rfl,hlen,by simpa using h5,by simpa using h6⟩] at hR
    subst hR
    refine qP [] ?_
    first|exact⟨⟩|simp [ah,ac]
   rw [if_neg (by rintro⟨_,_,hh,_⟩;exact hh (by simpa using h5))] at hR
   subst hR
   refine qJ [] ?_
   simp [bw,ah,ac]
  ·have hin:bU 1 1 7=true:=by decide
   try simp (disch:=omega) only [go_sem,seval,hin]
   refine qK (hN1) (qI 1 1) ?_
   refine qB (fun h7=>?_) fun h7=>?_
   ·have e:selA p=⟨1,cZ p 1,0,0,(ee (p.getD 2 [])).1,ah,ac⟩:=by simp only [selA,<-hK];simp [show 2 < p.length by omega]
    have hu:=xl (p.getD 2 [])
    rw [P6,P8 (show 2 < p.length by omega)] at hu e
    simp only [Option.getD_some] at hu e
    try simp (disch:=omega) only [go_sem,seval,aD]
    refine qK (hu) [] ?_
    rw [e] at hAL hR
    generalize bM _=L at hAL hR
    refine qK (hAL) [] ?_
    refine qB (fun h5=>?_) fun h5=>?_
    ·refine qK (hAL) [] ?_
     refine qK (hS) (qI 1 1) ?_
     refine qB (fun h6=>?_) fun h6=>?_
     ·rw [if_neg (by rintro⟨_,_,_,hh⟩;exact h6 hh)] at hR
      subst hR
      refine qJ [] ?_
      simp [bw,ah,ac]
     rw [if_pos ⟨rfl,hlen,by simpa using h5,by simpa using h6⟩] at hR
     subst hR
     refine qP [] ?_
     first|exact⟨⟩|simp [ah,ac]
    rw [if_neg (by rintro⟨_,_,hh,_⟩;exact hh (by simpa using h5))] at hR
    subst hR
    refine qJ [] ?_
    simp [bw,ah,ac]
   have e:selA p=⟨1,cZ p 1,0,0,[],ah,ac⟩:=by simp only [selA,<-hK];simp [show ¬ 2 < p.length by omega]
   rw [e] at hAL hR
   generalize bM _=L at hAL hR
   refine qK (hAL) [] ?_
   refine qB (fun h5=>?_) fun h5=>?_
   ·refine qK (hAL) [] ?_
    refine qK (hS) (qI 1 1) ?_
    refine qB (fun h6=>?_) fun h6=>?_
    ·rw [if_neg (by rintro⟨_,_,_,hh⟩;exact h6 hh)] at hR
     subst hR
     refine qJ [] ?_
     simp [bw,ah,ac]
    rw [if_pos ⟨rfl,hlen,by simpa using h5,by simpa using h6⟩] at hR
    subst hR
    refine qP [] ?_
    first|exact⟨⟩|simp [ah,ac]
   rw [if_neg (by rintro⟨_,_,hh,_⟩;exact hh (by simpa using h5))] at hR
   subst hR
   refine qJ [] ?_
   simp [bw,ah,ac]
  ·have hin:bU 2 1 7=true:=by decide
   try simp (disch:=omega) only [go_sem,seval,hin]
   refine qK (hN1) (qI 1 1) ?_
   refine qK (hN2) (qI 1 1) ?_
   have e:selA p=⟨2,cZ p 1,0,cZ p 2,[],ah,ac⟩:=by simp only [selA,<-hK];simp
   rw [e] at hAL hR
   generalize bM _=L at hAL hR
   refine qK (hAL) [] ?_
   refine qB (fun h5=>?_) fun h5=>?_
   ·refine qK (hAL) [] ?_
    refine qK (hS) (qI 1 1) ?_
    refine qB (fun h6=>?_) fun h6=>?_
    ·rw [if_neg (by rintro⟨_,_,_,hh⟩;exact h6 hh)] at hR
     subst hR
     refine qJ [] ?_
     simp [bw,ah,ac]
    rw [if_pos ⟨rfl,hlen,by simpa using h5,by simpa using h6⟩] at hR
    subst hR
    refine qP [] ?_
    first|exact⟨⟩|simp [ah,ac]
   rw [if_neg (by rintro⟨_,_,hh,_⟩;exact hh (by simpa using h5))] at hR
   subst hR
   refine qJ [] ?_
   simp [bw,ah,ac]
  ·have hin:bU 3 1 7=true:=by decide
   try simp (disch:=omega) only [go_sem,seval,hin]
   refine qK (hN1) (qI 1 1) ?_
   have e:selA p=⟨3,cZ p 1,0,0,[],ah,ac⟩:=by simp only [selA,<-hK];simp
   rw [e] at hAL hR
   generalize bM _=L at hAL hR
   refine qK (hAL) [] ?_
   refine qB (fun h5=>?_) fun h5=>?_
   ·refine qK (hAL) [] ?_
    refine qK (hS) (qI 1 1) ?_
    refine qB (fun h6=>?_) fun h6=>?_
    ·rw [if_neg (by rintro⟨_,_,_,hh⟩;exact h6 hh)] at hR
     subst hR
     refine qJ [] ?_
     simp [bw,ah,ac]
    rw [if_pos ⟨rfl,hlen,by simpa using h5,by simpa using h6⟩] at hR
    subst hR
    refine qP [] ?_
    first|exact⟨⟩|simp [ah,ac]
   rw [if_neg (by rintro⟨_,_,hh,_⟩;exact hh (by simpa using h5))] at hR
   subst hR
   refine qJ [] ?_
   simp [bw,ah,ac]
  ·have hin:bU 4 1 7=true:=by decide
   try simp (disch:=omega) only [go_sem,seval,hin]
   refine qK (hN1) (qI 1 1) ?_
   have e:selA p=⟨4,cZ p 1,0,0,[],ah,ac⟩:=by simp only [selA,<-hK];simp
   rw [e] at hAL hR
   generalize bM _=L at hAL hR
   refine qK (hAL) [] ?_
   refine qB (fun h5=>?_) fun h5=>?_
   ·refine qK (hAL) [] ?_
    refine qK (hS) (qI 1 1) ?_
    refine qB (fun h6=>?_) fun h6=>?_
    ·rw [if_neg (by rintro⟨_,_,_,hh⟩;exact h6 hh)] at hR
     subst hR
     refine qJ [] ?_
     simp [bw,ah,ac]
    rw [if_pos ⟨rfl,hlen,by simpa using h5,by simpa using h6⟩] at hR
    subst hR
    refine qP [] ?_
    first|exact⟨⟩|simp [ah,ac]
   rw [if_neg (by rintro⟨_,_,hh,_⟩;exact hh (by simpa using h5))] at hR
   subst hR
   refine qJ [] ?_
   simp [bw,ah,ac]
  ·have hin:bU 5 1 7=true:=by decide
   try simp (disch:=omega) only [go_sem,seval,hin]
   refine qK (hN1) (qI 1 1) ?_
   refine qK (hN2) (qI 1 1) ?_
   refine qK (hN3) (qI 1 1) ?_
   refine qK (hN4) (qI 1 1) ?_
   have e:selA p=⟨5,cZ p 1,0,0,[],⟨cZ p 2,cZ p 3,cZ p 4 == 1,false⟩,ac⟩:=by simp only [selA,<-hK];simp
   rw [e] at hAL hR
   generalize bM _=L at hAL hR
   refine qK (hAL) [] ?_
   refine qB (fun h5=>?_) fun h5=>?_
   ·refine qK (hAL) [] ?_
    refine qK (hS) (qI 1 1) ?_
    refine qB (fun h6=>?_) fun h6=>?_
    ·rw [if_neg (by rintro⟨_,_,_,hh⟩;exact h6 hh)] at hR
     subst hR
     refine qJ [] ?_
     simp [bw,ah,ac]
    rw [if_pos ⟨rfl,hlen,by simpa using h5,by simpa using h6⟩] at hR
    subst hR
    refine qP [] ?_
    first|exact⟨⟩|simp [ah,ac]
   rw [if_neg (by rintro⟨_,_,hh,_⟩;exact hh (by simpa using h5))] at hR
   subst hR
   refine qJ [] ?_
   simp [bw,ah,ac]
  ·have hin:bU 6 1 7=true:=by decide
   try simp (disch:=omega) only [go_sem,seval,hin]
   refine qK (hN1) (qI 1 1) ?_
   refine qK (hN2) (qI 1 1) ?_
   have e:selA p=⟨6,cZ p 1,cZ p 2,0,[],ah,ac⟩:=by simp only [selA,<-hK];simp
   rw [e] at hAL hR
   generalize bM _=L at hAL hR
   refine qK (hAL) [] ?_
   refine qB (fun h5=>?_) fun h5=>?_
   ·refine qK (hAL) [] ?_
    refine qK (hS) (qI 1 1) ?_
    refine qB (fun h6=>?_) fun h6=>?_
    ·rw [if_neg (by rintro⟨_,_,_,hh⟩;exact h6 hh)] at hR
     subst hR
     refine qJ [] ?_
     simp [bw,ah,ac]
    rw [if_pos ⟨rfl,hlen,by simpa using h5,by simpa using h6⟩] at hR
    subst hR
    refine qP [] ?_
    first|exact⟨⟩|simp [ah,ac]
   rw [if_neg (by rintro⟨_,_,hh,_⟩;exact hh (by simpa using h5))] at hR
   subst hR
   refine qJ [] ?_
   simp [bw,ah,ac]
  ·have hin:bU 7 1 7=true:=by decide
   try simp (disch:=omega) only [go_sem,seval,hin]
   refine qK (hN1) (qI 1 1) ?_
   refine qK (hN2) (qI 1 1) ?_
   have e:selA p=⟨7,cZ p 1,cZ p 2,0,[],ah,ac⟩:=by simp only [selA,<-hK];simp
   rw [e] at hAL hR
   generalize bM _=L at hAL hR
   refine qK (hAL) [] ?_
   refine qB (fun h5=>?_) fun h5=>?_
   ·refine qK (hAL) [] ?_
    refine qK (hS) (qI 1 1) ?_
    refine qB (fun h6=>?_) fun h6=>?_
    ·rw [if_neg (by rintro⟨_,_,_,hh⟩;exact h6 hh)] at hR
     subst hR
     refine qJ [] ?_
     simp [bw,ah,ac]
    rw [if_pos ⟨rfl,hlen,by simpa using h5,by simpa using h6⟩] at hR
    subst hR
    refine qP [] ?_
    first|exact⟨⟩|simp [ah,ac]
   rw [if_neg (by rintro⟨_,_,hh,_⟩;exact hh (by simpa using h5))] at hR
   subst hR
   refine qJ [] ?_
   simp [bw,ah,ac]
  ·have hin:bU 8 1 7=false:=by decide
   try simp (disch:=omega) only [go_sem,seval,hin]
   refine qK (hN1) (qI 1 1) ?_
   have e:selA p=⟨8,1,cZ p 1,0,[],ah,ac⟩:=by simp only [selA,<-hK];simp
   rw [e] at hAL hR
   generalize bM _=L at hAL hR
   refine qK (hAL) [] ?_
   refine qB (fun h5=>?_) fun h5=>?_
   ·refine qK (hAL) [] ?_
    refine qK (hS) (qI 1 1) ?_
    refine qB (fun h6=>?_) fun h6=>?_
    ·rw [if_neg (by rintro⟨_,_,_,hh⟩;exact h6 hh)] at hR
     subst hR
     refine qJ [] ?_
     simp [bw,ah,ac]
    rw [if_pos ⟨rfl,hlen,by simpa using h5,by simpa using h6⟩] at hR
    subst hR
    refine qP [] ?_
    first|exact⟨⟩|simp [ah,ac]
   rw [if_neg (by rintro⟨_,_,hh,_⟩;exact hh (by simpa using h5))] at hR
   subst hR
   refine qJ [] ?_
   simp [bw,ah,ac]
  ·have hin:bU 9 1 7=false:=by decide
   try simp (disch:=omega) only [go_sem,seval,hin]
   refine qK (hN1) (qI 1 1) ?_
   have e:selA p=⟨9,1,cZ p 1,0,[],ah,ac⟩:=by simp only [selA,<-hK];simp
   rw [e] at hAL hR
   generalize bM _=L at hAL hR
   refine qK (hAL) [] ?_
   refine qB (fun h5=>?_) fun h5=>?_
   ·refine qK (hAL) [] ?_
    refine qK (hS) (qI 1 1) ?_
    refine qB (fun h6=>?_) fun h6=>?_
    ·rw [if_neg (by rintro⟨_,_,_,hh⟩;exact h6 hh)] at hR
     subst hR
     refine qJ [] ?_
     simp [bw,ah,ac]
    rw [if_pos ⟨rfl,hlen,by simpa using h5,by simpa using h6⟩] at hR
    subst hR
    refine qP [] ?_
    first|exact⟨⟩|simp [ah,ac]
   rw [if_neg (by rintro⟨_,_,hh,_⟩;exact hh (by simpa using h5))] at hR
   subst hR
   refine qJ [] ?_
   simp [bw,ah,ac]
  ·have hin:bU 10 1 7=false:=by decide
   try simp (disch:=omega) only [go_sem,seval,hin]
   refine qK (hN1) (qI 1 1) ?_
   have e:selA p=⟨10,1,cZ p 1,0,[],ah,ac⟩:=by simp only [selA,<-hK];simp
   rw [e] at hAL hR
   generalize bM _=L at hAL hR
   refine qK (hAL) [] ?_
   refine qB (fun h5=>?_) fun h5=>?_
   ·refine qK (hAL) [] ?_
    refine qK (hS) (qI 1 1) ?_
    refine qB (fun h6=>?_) fun h6=>?_
    ·rw [if_neg (by rintro⟨_,_,_,hh⟩;exact h6 hh)] at hR
     subst hR
     refine qJ [] ?_
     simp [bw,ah,ac]
    rw [if_pos ⟨rfl,hlen,by simpa using h5,by simpa using h6⟩] at hR
    subst hR
    refine qP [] ?_
    first|exact⟨⟩|simp [ah,ac]
   rw [if_neg (by rintro⟨_,_,hh,_⟩;exact hh (by simpa using h5))] at hR
   subst hR
   refine qJ [] ?_
   simp [bw,ah,ac]
  ·have hin:bU 11 1 7=false:=by decide
   try simp (disch:=omega) only [go_sem,seval,hin]
   have e:selA p=⟨11,1,0,0,[],ah,(wo (p.getD 1 [])).1⟩:=by simp only [selA,<-hK];simp
   have hu:=pG (p.getD 1 []) (by have:=oP p 1;omega)
   rw [P6,P8 (show 1 < p.length by omega)] at hu e
   simp only [Option.getD_some] at hu e
   try simp (disch:=omega) only [go_sem,seval,aD]
   refine qK (hu) [] ?_
   rw [e] at hAL hR
   generalize bM _=L at hAL hR
   refine qK (hAL) [] ?_
   refine qB (fun h5=>?_) fun h5=>?_
   ·refine qK (hAL) [] ?_
    refine qK (hS) (qI 1 1) ?_
    refine qB (fun h6=>?_) fun h6=>?_
    ·rw [if_neg (by rintro⟨_,_,_,hh⟩;exact h6 hh)] at hR
     subst hR
     refine qJ [] ?_
     simp [bw,ah,ac]
    rw [if_pos ⟨rfl,hlen,by simpa using h5,by simpa using h6⟩] at hR
    subst hR
    refine qP [] ?_
    first|exact⟨⟩|simp [ah,ac]
   rw [if_neg (by rintro⟨_,_,hh,_⟩;exact hh (by simpa using h5))] at hR
   subst hR
   refine qJ [] ?_
   simp [bw,ah,ac]
  have hin:bU 12 1 7=false:=by decide
  try simp (disch:=omega) only [go_sem,seval,hin]
  refine qK (hN1) (qI 1 1) ?_
  have e:selA p=⟨12,1,cZ p 1,0,[],ah,ac⟩:=by simp only [selA,<-hK];simp
  rw [e] at hAL hR
  generalize bM _=L at hAL hR
  refine qK (hAL) [] ?_
  refine qB (fun h5=>?_) fun h5=>?_
  ·refine qK (hAL) [] ?_
   refine qK (hS) (qI 1 1) ?_
   refine qB (fun h6=>?_) fun h6=>?_
   ·rw [if_neg (by rintro⟨_,_,_,hh⟩;exact h6 hh)] at hR
    subst hR
    refine qJ [] ?_
    simp [bw,ah,ac]
   rw [if_pos ⟨rfl,hlen,by simpa using h5,by simpa using h6⟩] at hR
   subst hR
   refine qP [] ?_
   first|exact⟨⟩|simp [ah,ac]
  rw [if_neg (by rintro⟨_,_,hh,_⟩;exact hh (by simpa using h5))] at hR
  subst hR
  refine qJ [] ?_
  simp [bw,ah,ac]
theorem LE {P:Program} {g:Nat} {tab:List (List UInt8)} {f:FuncId} {args:List AV} {b:Bool} {h h':Hp} (ct:oO P g tab f args h (.sc (.bo b)) h') {β:Be} {w:World} (hlt:g < w.heap.size)
  (hc:∀ (j:Nat) (l:List UInt8),tab[j]? =some l->w.cell? ⟨g,j,none⟩=some (.string ⟨l.toArray⟩)) (hr:N8 β w β h) {vs:List Value} (hvs:L2 (iq β) args vs):
  Calls P f vs.toArray w fun e w'=>e=.returned (.bool b)/\Below w.heap.size w w':=
 Fq ct (fun k ⟨o,ob,p,ho,hown,hp,_⟩=>by rw [zy (LD hr) ho] at hown;cases hown) (J3 hr) hlt hc hvs
end
end Go.Proofs.YtdiiopjaebnmfaaGreatDoor
