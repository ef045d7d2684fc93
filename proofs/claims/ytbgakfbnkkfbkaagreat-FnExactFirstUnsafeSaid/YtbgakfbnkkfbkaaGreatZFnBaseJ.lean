/-
  Texts merged for this claim by shake.py: what its proof needs.
-/
import Derived.Tactics
import Derived.Below
import Derived.Laws.AppendOwn
import Derived.Laws.OwnMore
import Derived.Laws.Slices
import Derived.Laws.Small
import Derived.Laws.Strings
import Derived.KernelRfl
import Derived.Laws.MakeOwn
import Derived.Laws.BytesString
import Derived.Laws.BytesArg
import Derived.Laws.Build
import Derived.Laws.Concat
import Derived.Laws.StructEq
import Derived.Lib.ConvBytes
import Derived.Orders
import Derived.WalkKit
import Derived.ProofKit
import Derived.ShutString
import Derived.OpenShut
import Derived.ChangeOld
import Derived.Carry
import Derived.Test.YtbgakfbnkkfbkaaGreatChecked
import Derived.Laws.BitsLemmas
import Derived.JoinedOf
import Derived.Test.YtbgakfbnkkfbkaaGreatZFnBaseA
import Derived.Test.YtbgakfbnkkfbkaaGreatZFnBaseB
import Derived.Test.YtbgakfbnkkfbkaaGreatZFnBaseD
import Derived.Test.YtbgakfbnkkfbkaaGreatZFnBaseE
import Derived.Test.YtbgakfbnkkfbkaaGreatZFnBaseF
import Derived.Test.YtbgakfbnkkfbkaaGreatZFnBaseG
import Derived.Test.YtbgakfbnkkfbkaaGreatZFnBaseI
set_option maxHeartbeats 16000000
set_option maxRecDepth 100000
set_option linter.unusedVariables false
set_option linter.unusedSimpArgs false
namespace Go.Proofs.YtbgakfbnkkfbkaaGreat
section
open Go.RowKit
def aU (m:Int):List Int→Int
 |[]=>m
 |n::r=>if m - n < 0 then -1 else aU (m - n) r
theorem qj {m:Int} (h:0≤m):∀ {a b:List Int},aU m (a++b)=if aU m a < 0 then -1 else aU (aU m a) b
 |[],b=>(if_neg (show ¬ aU m [] < 0 by show ¬ m < 0;omega)).symm
 |n::a,b=>by
  simp only [List.cons_append,aU]
  split
  ·rfl
  exact qj (by omega)
theorem bI {m r:Int} (h:0≤m) {a b:List Int} (e:aU m a=r) (h1:r < 0):aU m (a++b)= -1:=by rw [qj h,if_pos (by omega)]
theorem bJ {m r:Int} (h:0≤m) {a b:List Int} (e:aU m a=r) (h1:¬ r < 0):aU m (a++b)=aU r b:=by rw [qj h,if_neg (by omega),e]
theorem bL {m:Int} (h:0≤m):∀ {a:List Int} {r:Int},(∀ n∈a,0≤n)→aU m a=r→ -1≤r∧r≤m
 |[],r,_,e=>by simp only [aU] at e;omega
 |n::a,r,hn,e=>by
  simp only [aU] at e
  split at e
  ·omega
  have:=bL (m:=m - n) (by omega) (fun x hx=>hn x (by simp [hx])) e
  have:=hn n (by simp)
  omega
theorem fc {m:Int} (h:0≤m):∀ {a:List Int},(∀ n∈a,0≤n)→0≤aU m a→∀ n∈a,n≤m
 |[],_,_,n,hm=>by simp at hm
 |k::a,hn,e,n,hm=>by
  simp only [aU] at e
  split at e
  ·omega
  have h1:=hn k (by simp)
  rcases List.mem_cons.1 hm with rfl|hm
  ·omega
  have:=fc (m:=m - k) (by omega) (fun x hx=>hn x (by simp [hx])) e n hm
  omega
theorem bW {α:Type} {f:α→List Sc} {l:List α} {z c:List Sc} {k:Nat} (h:k < l.length) (hc:c=f l[k]):((l.take k).map f++List.replicate (l.length - k) z).set k c=(l.take (k+1)).map f++List.replicate (l.length - (k+1)) z:=by
 have e:l.length - k=(l.length - (k+1))+1:=by omega
 have hl:((l.take k).map f).length=k:=by simp;omega
 rw [e,List.replicate_succ,List.set_append_right _ _ (by omega),hl,Nat.sub_self,List.set_cons_zero,List.take_succ_eq_append_getElem h,List.map_append,hc,List.append_assoc]
 rfl
theorem cg {α:Type} {f:α→List Sc} {l:List α} {z:List Sc} {k:Nat} (h:k < l.length):((l.take k).map f++List.replicate (l.length - k) z)[k]? =some z:=by
 have hl:((l.take k).map f).length=k:=by simp;omega
 rw [List.getElem?_append_right (by omega),hl,Nat.sub_self,List.getElem?_replicate,if_pos (by omega)]
theorem bi {α:Type} {f:α→List Sc} {l:List α} {z:List Sc} {k:Nat} (h:k≤l.length):((l.take k).map f++List.replicate (l.length - k) z).length=l.length:=by
 simp;omega
theorem d9 {α:Type} {f:α→List Sc} {l:List α} {z:List Sc}:(l.take l.length).map f++List.replicate (l.length - l.length) z=l.map f:=by simp
theorem oH (x:AddrD):ae Tryz.prog 64 [.ag x.cs] [] (.ag x.cs) []:=by
 refine qE Tryz.func64 Tryz.ntmps64 Tryz.results64 fun E hE=>?_
 exact qF []
theorem xo (x:AddrD):ae Tryz.prog 85 [.ag x.cs,.ag x.cs] [] (.sc (.bo true)) []:=by
 refine qE Tryz.func85 Tryz.ntmps85 Tryz.results85 fun E hE=>?_
 exact qF []
theorem sK (x:PolicyD):ae Tryz.prog 10 [.ag x.cs] [] (.ag x.cs) []:=by
 refine qE Tryz.func10 Tryz.ntmps10 Tryz.results10 fun E hE=>?_
 exact qF []
theorem qk (x:TagD):ae Tryz.prog 137 [.ag x.cs] [] (.ag x.cs) []:=by
 refine qE Tryz.func137 Tryz.ntmps137 Tryz.results137 fun E hE=>?_
 exact qF []
theorem ql (x:TagD):ae Tryz.prog 192 [.ag x.cs,.ag x.cs] [] (.sc (.bo true)) []:=by
 refine qE Tryz.func192 Tryz.ntmps192 Tryz.results192 fun E hE=>?_
 exact qF []
theorem lz (x:LetterD):ae Tryz.prog 65 [.ag x.cs] [] (.ag x.cs) []:=by
 refine qE Tryz.func65 Tryz.ntmps65 Tryz.results65 fun E hE=>?_
 refine qK (qk x.tag) [] ?_
 exact qF []
theorem sO (x:LetterD):ae Tryz.prog 86 [.ag x.cs,.ag x.cs] [] (.sc (.bo true)) []:=by
 refine qE Tryz.func86 Tryz.ntmps86 Tryz.results86 fun E hE=>?_
 refine qK (ql x.tag) [] ?_
 exact qF []
theorem lA (x:LetterD) (m:Int) (hx:x.text.length≤9223372036854775807) (h0:0≤m) (h:m≤1048576):ae Tryz.prog 52 [.ag x.cs,.sc (.int .i64 m)] [] (.sc (.int .i64 (aU m [(x.text.length:Int)]))) []:=by
 obtain⟨R,hR⟩:∃ R,R=aU m [(x.text.length:Int)]:=⟨_,rfl⟩
 rw [←hR]
 simp only [aU] at hR
 refine qE Tryz.func52 Tryz.ntmps52 Tryz.results52 fun E hE=>?_
 refine qB (fun h1=>?_) fun h1=>?_
 ·refine qJ [] ?_
  omega
 refine qJ [] ?_
 omega
end
section
open Go.RowKit
def e8 (w:WorldD) (side:Int) (t:List UInt8):WorldD:=if side=1 then { w with wroteA:=w.wroteA++t } else { w with wroteB:=w.wroteB++t }
def cF (w:WorldD) (side:Int) (t:List UInt8):WorldD:=if side=1 then { w with readA:=w.readA++t } else { w with readB:=w.readB++t }
def dV (w:WorldD) (x:LetterD):Bool:=eb x && !decide (aZ x.to=0) && fU w.known x.tag && [x.key,x.nonce,x.give,x.sgn].all fun n=>decide (n < 1000) || lY w.nums n
def j5 (e:EndD) (a:ActD):EndD×List LetterD:=
 if a.kind=1 then aS e a.text else if a.kind=2 then ((bu e a.many).1,[]) else if a.kind=3 then dt e else if a.kind=4 then bs e
 else if a.kind=5 then ((aB e a.addr).1,[]) else if a.kind=6 then bb e a.pos else br e a.pos
def kE (w:WorldD) (a:ActD):WorldD:=
 if a.kind=1 then e8 w a.side (a.text.take (cp (cG w a.side) a.text).2) else if a.kind=2 then cF w a.side (bu (cG w a.side) a.many).2 else w
def cC (w:WorldD) (a:ActD):Bool:=decide (a.kind=5) && (!decide (aZ a.addr.addr=a.side) || !(aB (cG w a.side) a.addr).2)
def db (w:WorldD) (a:ActD):WorldD×Int:=
 if cC w a then (w,1) else (aq a.side (el (kE w a) a.side (j5 (cG w a.side) a).1) (j5 (cG w a.side) a).2,0)
def gU (l:List LetterD) (n:Int):List LetterD:=l.take n.toNat++l.drop (n.toNat+1)
def uD (l:List LetterD) (n:Nat):LetterD:=l.getD n default
def a_ (w:WorldD) (a:ActD):WorldD×Int:=
 if a.kind=8∨a.kind=9 then
  if (w.bag.length:Int)≤a.pos then (w,1)
  else if a.kind=8 then (gN { w with bag:=gU w.bag a.pos } (uD w.bag a.pos.toNat),0) else ({ w with bag:=gU w.bag a.pos },0)
 else if a.kind=10 then
  if (w.bag.length:Int)≤a.pos∨40≤w.bag.length then (w,1) else ({ w with bag:=w.bag++[uD w.bag a.pos.toNat] },0)
 else if a.kind=11 then
  if dV w a.letter=false then (w,2) else if 40≤w.bag.length then (w,1) else ({ w with bag:=w.bag++[a.letter] },0)
 else
  if (w.past.length:Int)≤a.pos∨aZ (uD w.past a.pos.toNat).to=0∨40≤w.bag.length then (w,1) else ({ w with bag:=w.bag++[uD w.past a.pos.toNat] },0)
def ff (w:WorldD) (a:ActD):WorldD×Int:=if fe a then (if a.kind≤7 then db w a else a_ w a) else (w,3)
end
section
open Go.RowKit
theorem EZ {o:OutD} {t:List UInt8} (h:FineO o):(if o.room - (o.text.length:Int) < (t.length:Int) then o.room - (o.text.length:Int) else (t.length:Int))=(jM o t:Int):=by
 have:=h.len
 rw [jM]
 split<;>omega
theorem Nq {o:OutD} {t:List UInt8} (h:FineO o) (h2:o.room - (o.text.length:Int) < (t.length:Int)):o.room - (o.text.length:Int)=(jM o t:Int):=by
 have:=h.len
 rw [jM];omega
theorem z_ {o:OutD} {t:List UInt8} (h:FineO o) (h2:¬ o.room - (o.text.length:Int) < (t.length:Int)):jM o t=t.length:=by
 have:=h.len
 rw [jM];omega
theorem nZ {o:OutD} {t:List UInt8} (h:FineO o):(jM o t:Int)≤o.room - (o.text.length:Int):=by
 have:=h.len
 rw [jM];omega
theorem xY (o:OutD) (t:List UInt8) (ht:t.length≤1048576):ae Tryz.prog 227 [.ag o.cs,.sc (.st t)] [] (.tu [.ag (fr o t).1.cs,.sc (.int .i64 ((fr o t).2:Nat))]) []:=by
 have hf:=xW (o:=o) (t:=t)
 have htt:=xV (o:=o) (t:=t)
 have hK:=iv o
 generalize fr o t=R at*
 refine qE Tryz.func227 Tryz.ntmps227 Tryz.results227 fun E hE=>?_
 refine qK (hK) [] ?_
 refine qB (fun b1=>?_) fun b1=>?_
 ·rw [hf (by simp [i2,b1])]
  refine qX ?_
  exact qF []
 have F:=fq b1
 have f1:=F.base
 have f2:=F.room
 have f3:=F.len
 have f4:=F.sent
 have hm:=EZ (t:=t) F
 have hr:=nZ (t:=t) F
 have hle:=wc o t
 have htl:(t.take (jM o t)).length=jM o t:=by rw [List.length_take];omega
 have htt2:(t.take t.length).length=t.length:=by simp
 try simp (disch:=omega) only [go_sem,seval,hm]
 refine qB (fun b2=>?_) fun b2=>?_
 ·rw [hf (by simp only [i2,b1,Bool.true_and,decide_eq_false_iff_not];omega)]
  refine qX ?_
  exact qF []
 rw [htt (by simp only [i2,b1,Bool.true_and,decide_eq_true_eq];omega)]
 refine qX ?_
 refine qD [0,1,2,3,4,5,6,7] ?_
 refine qG ?_
 exact qF []
theorem xZ (o:OutD) (t:List UInt8) (ht:t.length≤1048576):ae Tryz.prog 200 [.ag o.cs,.sc (.st t)] [] (.tu [.ag (fr o t).1.cs,.sc (.int .i64 ((fr o t).2:Nat))]) []:=by
 have hf:=xW (o:=o) (t:=t)
 have htt:=xV (o:=o) (t:=t)
 have hK:=iw o
 generalize fr o t=R at*
 refine qE Tryz.func200 Tryz.ntmps200 Tryz.results200 fun E hE=>?_
 refine qK (hK) [] ?_
 refine qB (fun b1=>?_) fun b1=>?_
 ·rw [hf (by simp [i2,b1])]
  refine qX ?_
  exact qF []
 have F:=fq b1
 have f1:=F.base
 have f2:=F.room
 have f3:=F.len
 have f4:=F.sent
 have hr:=nZ (t:=t) F
 have hle:=wc o t
 have htl:(t.take (jM o t)).length=jM o t:=by rw [List.length_take];omega
 have htt2:(t.take t.length).length=t.length:=by simp
 refine qX ?_
 refine qB (fun b3=>?_) fun b3=>?_
 ·have e:=z_ (t:=t) F (by omega)
  rw [e] at hr
  refine qB (fun b2=>?_) fun b2=>?_
  ·rw [hf (by simp only [i2,b1,Bool.true_and,decide_eq_false_iff_not,e];omega)]
   refine qX ?_
   exact qF []
  rw [htt (by simp only [i2,b1,Bool.true_and,decide_eq_true_eq,e];omega),e]
  refine qX ?_
  refine qD [0,1,2,3,4,5,6,7] ?_
  refine qG ?_
  exact qF []
 by_cases hlt:o.room - (o.text.length:Int) < (t.length:Int)
 ·have e:=Nq (t:=t) F hlt
  try simp (disch:=omega) only [go_sem,seval,e]
  refine qB (fun b2=>?_) fun b2=>?_
  ·rw [hf (by simp only [i2,b1,Bool.true_and,decide_eq_false_iff_not];omega)]
   refine qX ?_
   exact qF []
  rw [htt (by simp only [i2,b1,Bool.true_and,decide_eq_true_eq];omega)]
  refine qX ?_
  refine qD [0,1,2,3,4,5,6,7] ?_
  refine qG ?_
  exact qF []
 have e:=z_ (t:=t) F hlt
 have e2:o.room - (o.text.length:Int)=(jM o t:Int):=by omega
 try simp (disch:=omega) only [go_sem,seval,e2]
 refine qB (fun b2=>?_) fun b2=>?_
 ·rw [hf (by simp only [i2,b1,Bool.true_and,decide_eq_false_iff_not];omega)]
  refine qX ?_
  exact qF []
 rw [htt (by simp only [i2,b1,Bool.true_and,decide_eq_true_eq];omega)]
 refine qX ?_
 refine qD [0,1,2,3,4,5,6,7] ?_
 refine qG ?_
 exact qF []
theorem rO {o:OutD} (F:FineO o):(cB o).length≤20∧((cB o).length:Int)≤o.base+(o.text.length:Int) - o.sent:=by
 have:=F.sent
 simp only [cB,List.length_take,List.length_drop]
 omega
theorem kF (o:OutD) (ho:o.text.length≤1048576):ae Tryz.prog 319 [.ag o.cs] [] (.tu [.ag (cX o).1.cs,.sc (.bo (cX o).2)]) []:=by
 have hf:=Np (o:=o)
 have ht:=A7 (o:=o)
 have hK:=iv o
 generalize cX o=R at*
 refine qE Tryz.func319 Tryz.ntmps319 Tryz.results319 fun E hE=>?_
 refine qK (hK) [] ?_
 refine qB (fun b1=>?_) fun b1=>?_
 ·have F:=fq b1
  have f1:=F.base
  have f2:=F.room
  have f3:=F.len
  obtain⟨k,hk⟩:∃ k:Nat,o.sent - o.base=(k:Int):=⟨(o.sent - o.base).toNat,by have:=F.sent;omega⟩
  have f4:=F.sent
  refine qX ?_
  refine qB (fun b2=>?_) fun b2=>?_
  ·rw [hf (by simp [f7,b2])]
   refine qX ?_
   exact qF []
  have hnt:cB o=(o.text.drop k).take 20:=by rw [cB,hk,Int.toNat_natCast]
  rw [ht (by simp [f7,b1];omega),hnt]
  try simp (disch:=omega) only [go_sem,seval,hk]
  refine qD [0,1,2,3,4,5,6,7,8,9] ?_
  refine⟨qC,ac 400 ?_⟩
  by_cases h5:((o.text.drop k).length:Int) < 20
  ·have h6:(o.text.drop k).take 20=o.text.drop k:=List.take_of_length_le (by omega)
   rw [h6]
   simp only [List.length_drop] at h5
   try simp (disch:=omega) only [go_sem,seval,h5]
   refine ah [] (qC) _ (by simp only [go_sem];rfl) (by rfl) (by rfl) ?_
   simp (disch:=omega) only [go_sem,seval]
   try simp [h5,h6]
   try exact List.take_of_length_le (by simp)
  simp only [List.length_drop] at h5
  try simp (disch:=omega) only [go_sem,seval,h5]
  refine ah [] (qC) _ (by simp only [go_sem];rfl) (by rfl) (by rfl) ?_
  simp (disch:=omega) only [go_sem,seval]
  try simp [h5]
 rw [hf (by simp [f7,b1])]
 refine qX ?_
 exact qF []
theorem kG (o:OutD) (ho:o.text.length≤1048576):ae Tryz.prog 274 [.ag o.cs] [] (.tu [.ag (cX o).1.cs,.sc (.bo (cX o).2)]) []:=by
 have hf:=Np (o:=o)
 have ht:=A7 (o:=o)
 have hK:=iw o
 generalize cX o=R at*
 refine qE Tryz.func274 Tryz.ntmps274 Tryz.results274 fun E hE=>?_
 refine qK (hK) [] ?_
 refine qB (fun b1=>?_) fun b1=>?_
 ·have F:=fq b1
  have f1:=F.base
  have f2:=F.room
  have f3:=F.len
  obtain⟨k,hk⟩:∃ k:Nat,o.sent - o.base=(k:Int):=⟨(o.sent - o.base).toNat,by have:=F.sent;omega⟩
  have f4:=F.sent
  refine qX ?_
  refine qB (fun b2=>?_) fun b2=>?_
  ·rw [hf (by simp [f7,b2])]
   refine qX ?_
   exact qF []
  have hnt:cB o=(o.text.drop k).take 20:=by rw [cB,hk,Int.toNat_natCast]
  rw [ht (by simp [f7,b1];omega),hnt]
  try simp (disch:=omega) only [go_sem,seval,hk]
  refine qB (fun b3=>?_) fun b3=>?_
  ·refine qX ?_
   exact qF []
  have h6:(o.text.drop k).take 20=o.text.drop k:=List.take_of_length_le (by simp only [List.length_drop] at b3⊢;omega)
  rw [h6]
  refine qX ?_
  exact qF []
 rw [hf (by simp [f7,b1])]
 refine qX ?_
 exact qF []
theorem A_ (o:OutD):ae Tryz.prog 232 [.ag o.cs] [] (.ag (fu o).cs) []:=by
 have hK:=iv o
 obtain⟨R,hR⟩:∃ R,R=fu o:=⟨_,rfl⟩
 rw [←hR]
 refine qE Tryz.func232 Tryz.ntmps232 Tryz.results232 fun E hE=>?_
 refine qK (hK) [] ?_
 refine qB (fun b1=>?_) fun b1=>?_
 ·rw [fu,if_pos b1] at hR
  subst hR
  refine qX ?_
  exact qF []
 rw [fu,if_neg (by simp [b1])] at hR
 subst hR
 refine qX ?_
 exact qF []
theorem Ba (o:OutD):ae Tryz.prog 205 [.ag o.cs] [] (.ag (fu o).cs) []:=by
 have hK:=iw o
 obtain⟨R,hR⟩:∃ R,R=fu o:=⟨_,rfl⟩
 rw [←hR]
 refine qE Tryz.func205 Tryz.ntmps205 Tryz.results205 fun E hE=>?_
 refine qK (hK) [] ?_
 refine qB (fun b1=>?_) fun b1=>?_
 ·rw [fu,if_pos b1] at hR
  subst hR
  refine qX ?_
  exact qF []
 rw [fu,if_neg (by simp [b1])] at hR
 subst hR
 refine qX ?_
 exact qF []
theorem wg (o:OutD) (ho:o.text.length≤1048576) (h:f7 o=true):ae Tryz.prog 321 [.ag o.cs] [] (.ag (OutD.cs { o with sent:=o.sent+((cB o).length:Int) })) []:=by
 have hN:=kF o ho
 rw [A7 h] at hN
 have F:=fq (by simp only [f7,Bool.and_eq_true] at h;exact h.1:fb o=true)
 have hl:=rO F
 have f1:=F.base
 have f2:=F.room
 have f3:=F.len
 have f4:=F.sent
 refine qE Tryz.func321 Tryz.ntmps321 Tryz.results321 fun E hE=>?_
 refine qK (hN) [] ?_
 exact qF []
theorem wh (o:OutD) (ho:o.text.length≤1048576) (h:f7 o=true):ae Tryz.prog 275 [.ag o.cs] [] (.ag (OutD.cs { o with sent:=o.sent+((cB o).length:Int) })) []:=by
 have hN:=kG o ho
 rw [A7 h] at hN
 have F:=fq (by simp only [f7,Bool.and_eq_true] at h;exact h.1:fb o=true)
 have hl:=rO F
 have f1:=F.base
 have f2:=F.room
 have f3:=F.len
 have f4:=F.sent
 refine qE Tryz.func275 Tryz.ntmps275 Tryz.results275 fun E hE=>?_
 refine qK (hN) [] ?_
 exact qF []
end
section
open Go.RowKit
theorem Nr {p:PiecesD} {m:Int} (h:0≤m):(if (p.ready.length:Int) < m then (p.ready.length:Int) else m)=(xX p m:Int):=by
 rw [xX]
 split<;>omega
theorem E0 {p:PiecesD} {m:Int}:xX p m≤p.ready.length:=Nat.min_le_right _ _
theorem TY {p:PiecesD} {m:Int} (h:(p.ready.length:Int) < m):xX p m=p.ready.length:=by rw [xX];omega
theorem TZ {p:PiecesD} {m:Int} (h0:0≤m) (h:¬ (p.ready.length:Int) < m):m=(xX p m:Int):=by rw [xX];omega
theorem rP (p:PiecesD) (m:Int) (hs:SmallP p):ae Tryz.prog 229 [.ag (p.cs 0),.sc (.int .i64 m)] (p.hp false) (.tu [.ag ((cz p m).1.cs 1),.sc (.st (cz p m).2)]) (p.hp false++(cz p m).1.hp true):=by
 have hf:=YO (p:=p) (m:=m)
 have ht:=YN (p:=p) (m:=m)
 have hC:=ay p hs.list
 have hK:=bY p hs.list
 generalize cz p m=R at*
 refine ga Tryz.func229 Tryz.ntmps229 Tryz.results229 fun E hE=>?_
 refine qK (hC) (qI 0 1) ?_
 refine qK (hK) (qI 0 1) ?_
 refine qB (fun b1=>?_) fun b1=>?_
 ·have F:=fd b1 hs
  have f0:=F.r0
  have f1:=F.r1
  have f2:=F.ready
  refine qB (fun b2=>?_) fun b2=>?_
  ·rw [hf (by simp only [pg,Bool.and_eq_false_iff,decide_eq_false_iff_not];omega)]
   refine qX ?_
   exact cc (qI 0 1++qI 3 1)
  have hm:=Nr (p:=p) (m:=m) (by omega)
  have hle:=E0 (p:=p) (m:=m)
  have hok:pg p m=decide (p.read+(xX p m:Int)≤1000000000):=by rw [pg,b1,decide_eq_true (show 0≤m by omega)];rfl
  generalize xX p m=N at*
  try simp (disch:=omega) only [go_sem,seval,hm]
  refine qB (fun b3=>?_) fun b3=>?_
  ·rw [hf (by rw [hok];simp;omega)]
   refine qX ?_
   exact cc (qI 0 1++qI 3 1)
  rw [ht (by rw [hok];simp;omega)]
  refine qX ?_
  refine aI [(2,5),(4,5)] [(2,4)] [[0,1,3,2,4,5,6],[0,1,3,2,5,4,6],[0,1,3,5,2,4,6]] 1 hE (fun s=>s.at (qU [39,5]) [(5,.sc (.st (p.ready.take N)))] (s.hp.set 2 (some ⟨[[.int .i64 (p.read+(N:Int)),.st (p.ready.drop N),.sl 3 0 p.list.length]],3,42,true,false⟩))) (by kernel_rfl) (qC) (by kernel_rfl) ?_ (ac 400 ?_)
  rotate_left
  rotate_right
  simp only [aQ]
  refine⟨aa 400 ?_,aa 400 ?_,aa 400 ?_⟩
  ·simp (disch:=omega) only [go_sem]
   refine⟨qC,(qI 0 5),ab (by rfl) (by rfl) ?_⟩
   try simp (disch:=omega) only [go_sem,seval]
  ·simp (disch:=omega) only [go_sem]
   refine⟨qC,(qI 0 5),ab (by rfl) (by rfl) ?_⟩
   try simp (disch:=omega) only [go_sem,seval]
  ·simp (disch:=omega) only [go_sem]
   refine⟨qC,(qI 0 5),ab (by rfl) (by rfl) ?_⟩
   try simp (disch:=omega) only [go_sem,seval]
  refine qX ?_
  exact cc (qI 0 1++qI 3 1)
 rw [hf (by simp [pg,b1])]
 refine qX ?_
 exact cc (qI 0 1++qI 3 1)
theorem rQ (p:PiecesD) (m:Int) (hs:SmallP p):ae Tryz.prog 202 [.ag (p.cs 0),.sc (.int .i64 m)] (p.hp false) (.tu [.ag ((cz p m).1.cs 1),.sc (.st (cz p m).2)]) (p.hp false++(cz p m).1.hp true):=by
 have hf:=YO (p:=p) (m:=m)
 have ht:=YN (p:=p) (m:=m)
 have hC:=jD p hs.list
 have hK:=bZ p hs.list
 have hsl:=hs.list
 have hsr:=hs.ready
 generalize cz p m=R at*
 by_cases h0:0≤m
 ·obtain⟨N,hN⟩:∃ N,N=xX p m:=⟨_,rfl⟩
  have hle:N≤p.ready.length:=by rw [hN];exact E0
  have hok:aG p=true→pg p m=decide (p.read+(N:Int)≤1000000000):=fun b1=>by rw [pg,b1,decide_eq_true h0,hN];rfl
  rw [←hN] at ht
  have key:∀ M:Int,M=(N:Int)→(M=(p.ready.length:Int)∨M=m)→True:=fun _ _ _=>trivial
  refine ga Tryz.func202 Tryz.ntmps202 Tryz.results202 fun E hE=>?_
  refine qK (hC) (qI 0 1) ?_
  by_cases hlt:(p.ready.length:Int) < m
  ·have e:=TY hlt
   rw [←hN] at e
   subst e
   try simp (disch:=omega) only [go_sem,seval,hlt]
   refine qK (hK) (qI 0 1) ?_
   refine qB (fun b1=>?_) fun b1=>?_
   ·have F:=fd b1 hs
    have f0:=F.r0
    have f1:=F.r1
    have f2:=F.ready
    have hok':=hok b1
    refine qX ?_
    refine qB (fun b3=>?_) fun b3=>?_
    ·rw [hf (by rw [hok'];simp;omega)]
     refine qX ?_
     exact cc (qI 0 1++qI 3 1)
    rw [ht (by rw [hok'];simp;omega)]
    refine qX ?_
    refine aI [(2,5),(4,5)] [(2,4)] [[0,1,3,2,4,5,6],[0,1,3,2,5,4,6],[0,1,3,5,2,4,6]] 1 hE (fun s=>s.at (qU [42,5]) [(5,.sc (.st (p.ready.take p.ready.length)))] (s.hp.set 2 (some ⟨[[.int .i64 (p.read+(p.ready.length:Int)),.st (p.ready.drop p.ready.length),.sl 3 0 p.list.length]],3,42,true,false⟩))) (by kernel_rfl) (qC) (by kernel_rfl) ?_ (ac 400 ?_)
    rotate_left
    rotate_right
    simp only [aQ]
    refine⟨aa 400 ?_,aa 400 ?_,aa 400 ?_⟩
    ·simp (disch:=omega) only [go_sem]
     refine⟨qC,(qI 0 5),ab (by rfl) (by rfl) ?_⟩
     try simp (disch:=omega) only [go_sem,seval]
    ·simp (disch:=omega) only [go_sem]
     refine⟨qC,(qI 0 5),ab (by rfl) (by rfl) ?_⟩
     try simp (disch:=omega) only [go_sem,seval]
    ·simp (disch:=omega) only [go_sem]
     refine⟨qC,(qI 0 5),ab (by rfl) (by rfl) ?_⟩
     try simp (disch:=omega) only [go_sem,seval]
    refine qX ?_
    exact cc (qI 0 1++qI 3 1)
   rw [hf (by simp [pg,b1])]
   refine qX ?_
   exact cc (qI 0 1++qI 3 1)
  have e:=TZ h0 hlt
  rw [←hN] at e
  subst e
  refine qX ?_
  refine qK (hK) (qI 0 1) ?_
  refine qB (fun b1=>?_) fun b1=>?_
  ·have F:=fd b1 hs
   have f0:=F.r0
   have f1:=F.r1
   have f2:=F.ready
   have hok':=hok b1
   refine qX ?_
   refine qB (fun b3=>?_) fun b3=>?_
   ·rw [hf (by rw [hok'];simp;omega)]
    refine qX ?_
    exact cc (qI 0 1++qI 3 1)
   rw [ht (by rw [hok'];simp;omega)]
   refine qX ?_
   refine aI [(2,5),(4,5)] [(2,4)] [[0,1,3,2,4,5,6],[0,1,3,2,5,4,6],[0,1,3,5,2,4,6]] 1 hE (fun s=>s.at (qU [42,5]) [(5,.sc (.st (p.ready.take N)))] (s.hp.set 2 (some ⟨[[.int .i64 (p.read+(N:Int)),.st (p.ready.drop N),.sl 3 0 p.list.length]],3,42,true,false⟩))) (by kernel_rfl) (qC) (by kernel_rfl) ?_ (ac 400 ?_)
   rotate_left
   rotate_right
   simp only [aQ]
   refine⟨aa 400 ?_,aa 400 ?_,aa 400 ?_⟩
   ·simp (disch:=omega) only [go_sem]
    refine⟨qC,(qI 0 5),ab (by rfl) (by rfl) ?_⟩
    try simp (disch:=omega) only [go_sem,seval]
   ·simp (disch:=omega) only [go_sem]
    refine⟨qC,(qI 0 5),ab (by rfl) (by rfl) ?_⟩
    try simp (disch:=omega) only [go_sem,seval]
   ·simp (disch:=omega) only [go_sem]
    refine⟨qC,(qI 0 5),ab (by rfl) (by rfl) ?_⟩
    try simp (disch:=omega) only [go_sem,seval]
   refine qX ?_
   exact cc (qI 0 1++qI 3 1)
  rw [hf (by simp [pg,b1])]
  refine qX ?_
  exact cc (qI 0 1++qI 3 1)
 rw [hf (by simp [pg,h0])]
 refine ga Tryz.func202 Tryz.ntmps202 Tryz.results202 fun E hE=>?_
 refine qK (hC) (qI 0 1) ?_
 refine qK (hK) (qI 0 1) ?_
 refine qB (fun b1=>?_) fun b1=>?_
 ·refine qX ?_
  exact cc (qI 0 1++qI 3 1)
 refine qX ?_
 exact cc (qI 0 1++qI 3 1)
theorem me (e:EndD) (t:List UInt8) (hs:Small e) (ht:t.length≤1048576):ae Tryz.prog 145 [.ag (e.cs 0),.sc (.st t)] (e.hp false) (.tu [.ag ((cp e t).1.cs 7),.sc (.int .i64 ((cp e t).2:Nat))]) (e.hp false++(cp e t).1.hp true):=by
 have hC:=(qH (aK e))
 have hK:=(qH (bf e))
 have hA:=xY e.out t ht
 have hf:=z6 (e:=e) (t:=t)
 have htt:=z5 (e:=e) (t:=t)
 generalize cp e t=R at*
 refine qE Tryz.func145 Tryz.ntmps145 Tryz.results145 fun E hE=>?_
 refine qK (hC) (qI 0 7) ?_
 refine qK (hK) (qI 0 7) ?_
 refine qB (fun b1=>?_) fun b1=>?_
 ·rw [hf b1]
  refine qX ?_
  exact qF (qI 0 7++qI 9 7)
 rw [htt b1]
 refine qX ?_
 refine qK (hA) [] ?_
 exact qF (qI 0 7++qI 9 7)
theorem uE (e:EndD) (m:Int) (hs:Small e) (hsp:SmallP e.inp):ae Tryz.prog 147 [.ag (e.cs 0),.sc (.int .i64 m)] (e.hp false) (.tu [.ag ((bu e m).1.cs 7),.sc (.st (bu e m).2)]) (e.hp false++(bu e m).1.hp true):=by
 have hC:=(qH (aK e))
 have hK:=(qH (bf e))
 have hA:=rP e.inp m hsp
 have hf:=z8 (e:=e) (m:=m)
 have htt:=z7 (e:=e) (m:=m)
 generalize bu e m=R at*
 refine qE Tryz.func147 Tryz.ntmps147 Tryz.results147 fun E hE=>?_
 refine qK (hC) (qI 0 7) ?_
 refine qK (hK) (qI 0 7) ?_
 refine qB (fun b1=>?_) fun b1=>?_
 ·rw [hf b1]
  refine qX ?_
  exact qF (qI 0 7++qI 9 7)
 rw [htt b1]
 refine qX ?_
 refine qK (hA) (qI 4 1) ?_
 exact qF (qI 0 7++qI 9 4++qI 17 1++qI 14 2)
theorem mf (e:EndD) (t:List UInt8) (hs:Small e) (ht:t.length≤1048576):ae Tryz.prog 114 [.ag (e.cs 0),.sc (.st t)] (e.hp false) (.tu [.ag ((cp e t).1.cs 7),.sc (.int .i64 ((cp e t).2:Nat))]) (e.hp false++(cp e t).1.hp true):=by
 have hC:=(qH (aD e))
 have hK:=(qH (be e))
 have hA:=xZ e.out t ht
 have hf:=z6 (e:=e) (t:=t)
 have htt:=z5 (e:=e) (t:=t)
 generalize cp e t=R at*
 refine qE Tryz.func114 Tryz.ntmps114 Tryz.results114 fun E hE=>?_
 refine qK (hC) (qI 0 7) ?_
 refine qK (hK) (qI 0 7) ?_
 refine qB (fun b1=>?_) fun b1=>?_
 ·rw [hf b1]
  refine qX ?_
  exact qF (qI 0 7++qI 9 7)
 rw [htt b1]
 refine qX ?_
 refine qK (hA) [] ?_
 exact qF (qI 0 7++qI 9 7)
theorem uF (e:EndD) (m:Int) (hs:Small e) (hsp:SmallP e.inp):ae Tryz.prog 117 [.ag (e.cs 0),.sc (.int .i64 m)] (e.hp false) (.tu [.ag ((bu e m).1.cs 7),.sc (.st (bu e m).2)]) (e.hp false++(bu e m).1.hp true):=by
 have hC:=(qH (aD e))
 have hK:=(qH (be e))
 have hA:=rQ e.inp m hsp
 have hf:=z8 (e:=e) (m:=m)
 have htt:=z7 (e:=e) (m:=m)
 generalize bu e m=R at*
 refine qE Tryz.func117 Tryz.ntmps117 Tryz.results117 fun E hE=>?_
 refine qK (hC) (qI 0 7) ?_
 refine qK (hK) (qI 0 7) ?_
 refine qB (fun b1=>?_) fun b1=>?_
 ·rw [hf b1]
  refine qX ?_
  exact qF (qI 0 7++qI 9 7)
 rw [htt b1]
 refine qX ?_
 refine qK (hA) (qI 4 1) ?_
 exact qF (qI 0 7++qI 9 4++qI 17 1++qI 14 2)
end
section
open Go.RowKit
theorem jN {e:EndD} (hs:Small e):Small (eX e).1:=by
 rw [eX];split
 ·exact⟨hs.own,hs.far,hs.subs,hs.halfs,hs.list,hs.done,hs.over⟩
 exact hs
theorem nf (e:EndD):(eX e).2.length≤1:=by
 rw [eX];split<;>simp
theorem aaX (e:EndD):(eX e).1.inp=e.inp:=by
 rw [eX];split<;>rfl
theorem n5 (e:EndD):(eX e).1.out.text=e.out.text:=by
 rw [eX];split
 ·dsimp only;rw [wd];split<;>rfl
 rfl
theorem Bb (e:EndD) (hs:Small e) (ht:e.out.text.length≤1048576):ae Tryz.prog 295 [.ag (e.cs 0)] (e.hp false) (.tu [.ag ((eX e).1.cs 7),.sc (.sl 14 0 (eX e).2.length)])
  (e.hp false++((eX e).1.hp true++[some ⟨(eX e).2.map LetterD.cs,19,91,true,true⟩])):=by
 have hC:=(qH (aK e))
 have hN:=kF e.out ht
 have hX:=(qH (vZ e))
 have hf:=EU (e:=e)
 have hpt:= @EV e
 have hpk:f7 e.out=true→cX e.out=(⟨e.out.sent,cB e.out⟩,true):=A7
 have hpf:f7 e.out=false→cX e.out=(⟨0,[]⟩,false):=Np
 have hW:=fun h=>wg e.out ht h
 have hcase:=lN e
 have hpo:kD e=(f7 e.out && decide (0≤bk e)):=rfl
 have hpick:0≤bk e→0≤e.pick∧e.pick≤1000000000:=fun h=>by
  rw [bk] at h
  split at h
  ·rename_i hh;exact iD hh.1
  omega
 generalize eX e=R at*
 generalize cX e.out=np at*
 obtain⟨⟨npos,ntext⟩,nok⟩:=np
 refine ga Tryz.func295 Tryz.ntmps295 Tryz.results295 fun E hE=>?_
 refine qK (hC) (qI 0 7) ?_
 refine qK (hN) [] ?_
 refine qK (hX) (qI 0 7) ?_
 by_cases h1:f7 e.out=true∧0≤bk e
 ·obtain⟨h1,h2⟩:=h1
  have hok:nok=true:=by have:=hpk h1;simp only [Prod.mk.injEq] at this;exact this.2
  have hps:npos=e.out.sent:=by have:=hpk h1;simp only [Prod.mk.injEq,PieceD.mk.injEq] at this;exact this.1.1
  have htx:ntext=cB e.out:=by have:=hpk h1;simp only [Prod.mk.injEq,PieceD.mk.injEq] at this;exact this.1.2
  subst hok hps htx
  have hW:=hW h1
  have hpick:=hpick (by omega)
  obtain⟨n,hn,hk⟩:∃ m:Nat,m < e.subs.length∧bk e=(m:Int):=by rcases hcase with h|h;omega;exact h
  rw [hpt (by rw [hpo,h1,decide_eq_true (by omega)];rfl) hk hn]
  have hg:=ao (enc:=SubD.cs) hn
  generalize bk e=z at*
  subst hk
  refine qX ?_
  refine qK (hW) [] ?_
  refine qK (tx e.pick (by simp only [I64];omega)) [] ?_
  try simp (disch:=omega) only [go_sem,seval,hg]
  refine aI [(11,12)] [] [(qU [0,14]),(qU [0,11,12,1,11,1,13,1])] 7 hE (fun s=>s.at (qU [39,12]) [(3,.sc (.sl 19 0 1))] ((s.hp.set 8 (some ⟨[[.int .i64 e.side,.int .i64 e.state,.int .i64 e.key,.int .i64 e.peer,.int .i64 e.policy.kind,.int .i64 e.policy.many,.sl 9 0 e.own.length,.sl 10 0 e.far.length,.sl 11 0 e.subs.length,.sl 12 0 e.halfs.length,.int .i64 e.bucket.rate,.int .i64 e.bucket.burst,.int .i64 e.bucket.cur,.st e.out.text,.int .i64 e.out.base,.int .i64 (e.out.sent+((cB e.out).length:Int)),.int .i64 e.out.room,.int .i64 e.inp.read,.st e.inp.ready,.sl 13 0 e.inp.list.length,.sl 14 0 e.done.length,.sl 15 0 e.over.length,.int .i64 e.draw,.int .i64 e.now,.int .i64 (iE e.pick)]],25,45,true,false⟩))++[some ⟨[(z9 e.subs[n] e.out).cs],19,91,true,true⟩])) (by kernel_rfl) (qC) (by kernel_rfl) ?_ (ac 400 ?_)
  rotate_left
  rotate_right
  simp only [aQ]
  refine⟨aa 400 ?_,aa 400 ?_⟩
  ·simp (disch:=omega) only [go_sem]
   refine az (bg e.subs[n].road { aw with kind:=11,sgn:=e.subs[n].give,pos:=e.out.sent,text:=cB e.out }) [] ?_
   refine⟨qC,(qI 0 20),ab (by rfl) (by rfl) ?_⟩
   try simp (disch:=omega) only [go_sem,seval]
   try rfl
  ·simp (disch:=omega) only [go_sem]
   refine az (bg e.subs[n].road { aw with kind:=11,sgn:=e.subs[n].give,pos:=e.out.sent,text:=cB e.out }) [] ?_
   refine⟨qC,(qI 0 20),ab (by rfl) (by rfl) ?_⟩
   try simp (disch:=omega) only [go_sem,seval]
   try rfl
  refine qX ?_
  exact cc (qI 0 7++qI 9 7++qI 19 1)
 have hpn:kD e=false:=by
  rw [hpo]
  by_cases h3:f7 e.out=true
  ·rw [h3,decide_eq_false (fun h=>h1 ⟨h3,h⟩)];rfl
  rw [Bool.not_eq_true] at h3;rw [h3];rfl
 rw [hf hpn]
 have hno:nok=false∨bk e= -1:=by
  by_cases h3:f7 e.out=true
  ·right;rcases hcase with h|⟨m,_,h⟩
   ·exact h
   exact absurd ⟨h3,by omega⟩ h1
  left;have:=hpf (by simpa using h3);simp only [Prod.mk.injEq] at this;exact this.2
 rcases hno with hno|hno
 ·subst hno
  refine qX ?_
  exact cc (qI 0 7++qI 9 7++qO 1)
 rw [hno] at*
 cases nok with
 |false=>
  refine qX ?_
  exact cc (qI 0 7++qI 9 7++qO 1)
 |true=>
  refine qX ?_
  exact cc (qI 0 7++qI 9 7++qO 1)
theorem uG (e:EndD) (hs:Small e) (ht:e.out.text.length≤1048576):ae Tryz.prog 201 [.ag (e.cs 0)] (e.hp false) (.tu [.ag ((eX e).1.cs 7),.sc (.sl 14 0 (eX e).2.length)])
  (e.hp false++((eX e).1.hp true++[some ⟨(eX e).2.map LetterD.cs,19,91,true,true⟩])):=by
 have hC:=(qH (aD e))
 have hN:=kG e.out ht
 have hX:=(qH (v_ e))
 have hf:=EU (e:=e)
 have hpt:= @EV e
 have hpk:f7 e.out=true→cX e.out=(⟨e.out.sent,cB e.out⟩,true):=A7
 have hpf:f7 e.out=false→cX e.out=(⟨0,[]⟩,false):=Np
 have hW:=fun h=>wh e.out ht h
 have hcase:=lN e
 have hpo:kD e=(f7 e.out && decide (0≤bk e)):=rfl
 have hpick:0≤bk e→0≤e.pick∧e.pick≤1000000000:=fun h=>by
  rw [bk] at h
  split at h
  ·rename_i hh;exact iD hh.1
  omega
 generalize eX e=R at*
 generalize cX e.out=np at*
 obtain⟨⟨npos,ntext⟩,nok⟩:=np
 refine ga Tryz.func201 Tryz.ntmps201 Tryz.results201 fun E hE=>?_
 refine qK (hC) (qI 0 7) ?_
 refine qK (hX) (qI 0 7) ?_
 refine qK (hN) [] ?_
 by_cases h1:f7 e.out=true∧0≤bk e
 ·obtain⟨h1,h2⟩:=h1
  have hok:nok=true:=by have:=hpk h1;simp only [Prod.mk.injEq] at this;exact this.2
  have hps:npos=e.out.sent:=by have:=hpk h1;simp only [Prod.mk.injEq,PieceD.mk.injEq] at this;exact this.1.1
  have htx:ntext=cB e.out:=by have:=hpk h1;simp only [Prod.mk.injEq,PieceD.mk.injEq] at this;exact this.1.2
  subst hok hps htx
  have hW:=hW h1
  have hpick:=hpick (by omega)
  obtain⟨n,hn,hk⟩:∃ m:Nat,m < e.subs.length∧bk e=(m:Int):=by rcases hcase with h|h;omega;exact h
  rw [hpt (by rw [hpo,h1,decide_eq_true (by omega)];rfl) hk hn]
  have hg:=ao (enc:=SubD.cs) hn
  generalize bk e=z at*
  subst hk
  have hpk2:iE e.pick=if 1000000000 < e.pick+1 then 0 else e.pick+1:=by rw [iE];split<;>split<;>omega
  refine qX ?_
  refine ZN 39 (hW) [] ?_
  refine dP 7 hE (fun s=>s.at (qU [8,1,10,31]) [] (s.hp.set 16 (some ⟨[[.int .i64 e.side,.int .i64 e.state,.int .i64 e.key,.int .i64 e.peer,.int .i64 e.policy.kind,.int .i64 e.policy.many,.sl 9 0 e.own.length,.sl 10 0 e.far.length,.sl 11 0 e.subs.length,.sl 12 0 e.halfs.length,.int .i64 e.bucket.rate,.int .i64 e.bucket.burst,.int .i64 e.bucket.cur,.st e.out.text,.int .i64 e.out.base,.int .i64 (e.out.sent+((cB e.out).length:Int)),.int .i64 e.out.room,.int .i64 e.inp.read,.st e.inp.ready,.sl 13 0 e.inp.list.length,.sl 14 0 e.done.length,.sl 15 0 e.over.length,.int .i64 e.draw,.int .i64 e.now,.int .i64 (iE e.pick)]],25,45,true,false⟩))) (qC) (by rfl) (fun N hN=>ac 401 ?_) (dm 39 400 ?_)
  ·refine qX ?_
   refine qB (fun b9=>?_) fun b9=>?_
   ·rw [if_pos (by omega)] at hpk2
    refine qX ?_
    refine⟨qC,hN _ (qI 0 19) (ab (by rfl) (by rfl) ?_)⟩
    simp (disch:=omega) only [go_sem,seval]
    exact hpk2.symm
   rw [if_neg (by omega)] at hpk2
   refine qX ?_
   refine⟨qC,hN _ (qI 0 19) (ab (by rfl) (by rfl) ?_)⟩
   simp (disch:=omega) only [go_sem,seval]
   exact hpk2.symm
  try simp (disch:=omega) only [go_sem,seval,hg]
  refine aI [(0,13),(11,0),(12,0)] [(11,12),(11,13),(12,13)] [(qU [1,12,0,1,13,3]),(qU [1,11,0,1,12,4]),(qU [1,10,0,1,11,5]),(qU [1,13,0,1,14,2])] 7 hE (fun s=>s.at (qU [5,1,46,14]) [(3,.sc (.sl 20 0 1))] (((s.hp.set 8 (some ⟨[[.int .i64 e.side,.int .i64 e.state,.int .i64 e.key,.int .i64 e.peer,.int .i64 e.policy.kind,.int .i64 e.policy.many,.sl 9 0 e.own.length,.sl 10 0 e.far.length,.sl 11 0 e.subs.length,.sl 12 0 e.halfs.length,.int .i64 e.bucket.rate,.int .i64 e.bucket.burst,.int .i64 e.bucket.cur,.st e.out.text,.int .i64 e.out.base,.int .i64 (e.out.sent+((cB e.out).length:Int)),.int .i64 e.out.room,.int .i64 e.inp.read,.st e.inp.ready,.sl 13 0 e.inp.list.length,.sl 14 0 e.done.length,.sl 15 0 e.over.length,.int .i64 e.draw,.int .i64 e.now,.int .i64 (iE e.pick)]],25,45,true,false⟩)).set 17 none)++[some ⟨[(z9 e.subs[n] e.out).cs],19,91,true,true⟩])) (by kernel_rfl) (qC) (by kernel_rfl) ?_ (ac 400 ?_)
  rotate_left
  rotate_right
  simp only [aQ]
  refine⟨aa 400 ?_,aa 400 ?_,aa 400 ?_,aa 400 ?_⟩
  ·simp (disch:=omega) only [go_sem]
   refine az (aX e.subs[n].road { aw with kind:=11,sgn:=e.subs[n].give,pos:=e.out.sent,text:=cB e.out }) [] ?_
   refine⟨qC,(qI 0 20++qI 21 1),ab (by rfl) (by rfl) ?_⟩
   try simp (disch:=omega) only [go_sem,seval]
   try rfl
  ·simp (disch:=omega) only [go_sem]
   refine az (aX e.subs[n].road { aw with kind:=11,sgn:=e.subs[n].give,pos:=e.out.sent,text:=cB e.out }) [] ?_
   refine⟨qC,(qI 0 20++qI 21 1),ab (by rfl) (by rfl) ?_⟩
   try simp (disch:=omega) only [go_sem,seval]
   try rfl
  ·simp (disch:=omega) only [go_sem]
   refine az (aX e.subs[n].road { aw with kind:=11,sgn:=e.subs[n].give,pos:=e.out.sent,text:=cB e.out }) [] ?_
   refine⟨qC,(qI 0 20++qI 21 1),ab (by rfl) (by rfl) ?_⟩
   try simp (disch:=omega) only [go_sem,seval]
   try rfl
  ·simp (disch:=omega) only [go_sem]
   refine az (aX e.subs[n].road { aw with kind:=11,sgn:=e.subs[n].give,pos:=e.out.sent,text:=cB e.out }) [] ?_
   refine⟨qC,(qI 0 20++qI 21 1),ab (by rfl) (by rfl) ?_⟩
   try simp (disch:=omega) only [go_sem,seval]
   try rfl
  refine qX ?_
  exact cc (qI 0 7++qI 9 7++qI 20 1)
 have hpn:kD e=false:=by
  rw [hpo]
  by_cases h3:f7 e.out=true
  ·rw [h3,decide_eq_false (fun h=>h1 ⟨h3,h⟩)];rfl
  rw [Bool.not_eq_true] at h3;rw [h3];rfl
 rw [hf hpn]
 have hno:nok=false∨bk e= -1:=by
  by_cases h3:f7 e.out=true
  ·right;rcases hcase with h|⟨m,_,h⟩
   ·exact h
   exact absurd ⟨h3,by omega⟩ h1
  left;have:=hpf (by simpa using h3);simp only [Prod.mk.injEq] at this;exact this.2
 rcases hno with hno|hno
 ·subst hno
  refine qX ?_
  rcases hcase with h|⟨m,_,h⟩
  ·try simp (disch:=omega) only [go_sem,seval,h]
   exact cc (qI 0 7++qI 9 7++qI 17 1)
  try simp (disch:=omega) only [go_sem,seval,h]
  exact cc (qI 0 7++qI 9 7++qI 17 1)
 rw [hno] at*
 refine qX ?_
 exact cc (qI 0 7++qI 9 7++qI 17 1)
end
section
open Go.RowKit
theorem mg {n:Nat} {e:EndD} (h:n < 3):dU (3 - n) e=((dU (3 - (n+1)) (eX e).1).1,(eX e).2++(dU (3 - (n+1)) (eX e).1).2):=by
 rw [show 3 - n=(3 - (n+1))+1 by omega];rfl
theorem i3:∀ {k:Nat} {e:EndD},Small e→Small (dU k e).1
 |0,_,h=>h
 |k+1,e,h=>i3 (k:=k) (jN h)
theorem w4:∀ {k:Nat} {e:EndD},(dU k e).1.inp=e.inp
 |0,_=>rfl
 |k+1,e=>by rw [show (dU (k+1) e).1=(dU k (eX e).1).1 from rfl,w4,aaX]
theorem t8:∀ {k:Nat} {e:EndD},(dU k e).1.out.text=e.out.text
 |0,_=>rfl
 |k+1,e=>by rw [show (dU (k+1) e).1=(dU k (eX e).1).1 from rfl,t8,n5]
theorem kV:∀ {k:Nat} {e:EndD},(dU k e).2.length≤k
 |0,_=>Nat.le_refl _
 |k+1,e=>by
  have h1:=nf e
  have h2:=kV (k:=k) (e:=(eX e).1)
  rw [show (dU (k+1) e).2=(eX e).2++(dU k (eX e).1).2 from rfl,List.length_append]
  omega
theorem lO (e:EndD) (hs:Small e) (ht:e.out.text.length≤1048576):ae Tryz.prog 228 [.ag (e.cs 0)] (e.hp true) (.tu [.ag ((dU 3 e).1.cs 7),.sc (.sl 14 0 (dU 3 e).2.length)])
  ([none,none,none,none,none,none,none]++((dU 3 e).1.hp true++[some ⟨(dU 3 e).2.map LetterD.cs,19,91,true,true⟩])):=by
 obtain⟨R,hR⟩:∃ R,R=dU 3 e:=⟨_,rfl⟩
 rw [←hR]
 refine ga Tryz.func228 Tryz.ntmps228 Tryz.results228 fun E hE=>?_
 refine cE 7 hE (fun s (y:Nat×EndD×List LetterD)=>s.at (qU [0,1,6,15]) [(5,.sc (.int .i64 (y.1:Nat))),(4,.sc (.sl 16 0 y.2.2.length))] ([none,none,none,none,none,none,none,some ⟨[y.2.1.cs 9],25,45,true,false⟩]++(((s.hp.drop 8).take 1)++(y.2.1.hp true++[some ⟨y.2.2.map LetterD.cs,19,91,true,true⟩])))) (fun (y:Nat×EndD×List LetterD)=>y.1≤3∧Small y.2.1∧y.2.1.out.text.length≤1048576∧y.2.2.length≤y.1∧R=((dU (3 - y.1) y.2.1).1,y.2.2++(dU (3 - y.1) y.2.1).2)) (fun (y:Nat×EndD×List LetterD)=>3 - y.1) (0,e,[]) (qI 0 9++qI 0 7++qO 1) (qC) (⟨by omega,hs,ht,Nat.le_refl _,hR⟩) (ab (by rfl) (by rfl) ?_) fun y hy N hN=>?_
 ·exact qY
 obtain⟨n,e1,l⟩:=y
 obtain⟨h1,h2,h3,h4,h5⟩:=hy
 dsimp only at h1 h2 h3 h4 h5
 have hP:=Bb e1 h2 h3
 have hp1:=nf e1
 have hps:=jN h2
 have hpt:(eX e1).1.out.text.length≤1048576:=by rw [n5];exact h3
 refine qR ?_
 refine qB (fun b=>?_) fun b=>?_
 ·rw [mg (by omega)] at h5
  obtain⟨pr,hpr⟩:∃ p,p=eX e1:=⟨_,rfl⟩
  rw [←hpr] at hP hp1 hps hpt h5
  obtain⟨e2,l2⟩:=pr
  dsimp only at hP hp1 hps hpt h5
  rw [←List.append_assoc] at h5
  refine qX ?_
  refine qK (hP) (qI 9 7) ?_
  refine⟨qC,hN _ (n+1,e2,l++l2) (qI 0 9++qI 17 7++qI 26 1) (by (try dsimp only);exact⟨by omega,hps,hpt,by simp only [List.length_append];omega,h5⟩) (by (try dsimp only);omega) (ab (by rfl) (by rfl) ?_)⟩
  try simp (disch:=omega) only [go_sem,seval]
  try simp
 have e3:n=3:=by omega
 subst e3
 simp only [Nat.sub_self,dU,List.append_nil] at h5
 subst h5
 refine qX ?_
 exact cc (qI 0 7++qI 9 8)
theorem lP (e:EndD) (t:List UInt8) (hs:Small e) (ht:t.length≤1048576) (ho:(cp e t).1.out.text.length≤1048576):ae Tryz.prog 146 [.ag (e.cs 0),.sc (.st t)] (e.hp false) (.tu [.ag ((aS e t).1.cs 7),.sc (.sl 14 0 (aS e t).2.length)])
  (e.hp false++((aS e t).1.hp true++[some ⟨(aS e t).2.map LetterD.cs,19,91,true,true⟩])):=by
 have hW:=me e t hs ht
 have hsw:Small (cp e t).1:=by
  rw [cp];split
  ·exact⟨hs.own,hs.far,hs.subs,hs.halfs,hs.list,hs.done,hs.over⟩
  exact hs
 have hP:=lO (cp e t).1 hsw ho
 obtain⟨R,hR⟩:∃ R,R=aS e t:=⟨_,rfl⟩
 rw [←hR]
 rw [aS] at hR
 rw [←hR] at hP
 clear hR
 generalize cp e t=w1 at*
 obtain⟨e1,n1⟩:=w1
 dsimp only at hP hsw ho hW
 refine ga Tryz.func146 Tryz.ntmps146 Tryz.results146 fun E hE=>?_
 refine qK (hW) (qI 0 7) ?_
 refine qK (hP) (qI 9 7) ?_
 exact cc (qI 0 7++qI 17 8)
theorem lQ (e:EndD) (t:List UInt8) (hs:Small e) (ht:t.length≤1048576) (ho:(cp e t).1.out.text.length≤1048576):ae Tryz.prog 116 [.ag (e.cs 0),.sc (.st t)] (e.hp false) (.tu [.ag ((aS e t).1.cs 7),.sc (.sl 14 0 (aS e t).2.length)])
  (e.hp false++((aS e t).1.hp true++[some ⟨(aS e t).2.map LetterD.cs,19,91,true,true⟩])):=by
 have hW:=mf e t hs ht
 have hsw:Small (cp e t).1:=by
  rw [cp];split
  ·exact⟨hs.own,hs.far,hs.subs,hs.halfs,hs.list,hs.done,hs.over⟩
  exact hs
 obtain⟨R,hR⟩:∃ R,R=aS e t:=⟨_,rfl⟩
 rw [←hR]
 rw [aS] at hR
 generalize cp e t=w1 at*
 obtain⟨e0,n1⟩:=w1
 dsimp only at hsw ho hW hR
 refine ga Tryz.func116 Tryz.ntmps116 Tryz.results116 fun E hE=>?_
 refine qK (hW) (qI 0 7) ?_
 refine cE 7 hE (fun s (y:Nat×EndD×List LetterD)=>s.at (qU [0,3,7,1,10,21]) [(9,.sc (.int .i64 (y.1:Nat))),(8,.sc (.sl 17 0 y.2.2.length))] ((s.hp.take 9)++(y.2.1.hp true++[some ⟨[y.2.1.cs 9],25,45,true,false⟩,some ⟨y.2.2.map LetterD.cs,19,91,true,true⟩]))) (fun (y:Nat×EndD×List LetterD)=>y.1≤3∧Small y.2.1∧y.2.1.out.text.length≤1048576∧y.2.2.length≤y.1∧R=((dU (3 - y.1) y.2.1).1,y.2.2++(dU (3 - y.1) y.2.1).2)) (fun (y:Nat×EndD×List LetterD)=>3 - y.1) (0,e0,[]) (qI 0 18) (qC) (⟨by omega,hsw,ho,Nat.le_refl _,hR⟩) (ab (by rfl) (by rfl) ?_) fun y hy N hN=>?_
 ·exact qY
 obtain⟨n,e1,l⟩:=y
 obtain⟨h1,h2,h3,h4,h5⟩:=hy
 dsimp only at h1 h2 h3 h4 h5
 have hP:=uG e1 h2 h3
 have hp1:=nf e1
 have hps:=jN h2
 have hpt:(eX e1).1.out.text.length≤1048576:=by rw [n5];exact h3
 refine qR ?_
 refine qB (fun b=>?_) fun b=>?_
 ·rw [mg (by omega)] at h5
  obtain⟨pr,hpr⟩:∃ p,p=eX e1:=⟨_,rfl⟩
  rw [←hpr] at hP hp1 hps hpt h5
  obtain⟨e2,l2⟩:=pr
  dsimp only at hP hp1 hps hpt h5
  rw [←List.append_assoc] at h5
  refine qX ?_
  refine qK (hP) (qI 9 7) ?_
  refine⟨qC,hN _ (n+1,e2,l++l2) (qI 0 9++qI 19 7++qI 16 1++qI 27 1) (by (try dsimp only);exact⟨by omega,hps,hpt,by simp only [List.length_append];omega,h5⟩) (by (try dsimp only);omega) (ab (by rfl) (by rfl) ?_)⟩
  try simp (disch:=omega) only [go_sem,seval]
  try simp
 have e3:n=3:=by omega
 subst e3
 simp only [Nat.sub_self,dU,List.append_nil] at h5
 subst h5
 refine qX ?_
 exact cc (qI 0 7++qI 9 7++qI 17 1)
end
section
open Go.RowKit
theorem jQ {l:List AddrD} (h:cw l=true):∀ (d i:Nat) (hj:i+d+1 < l.length),l[i].id < l[i+d+1].id
 |0,i,hj=>by
  simp only [cw,Bool.and_eq_true] at h
  have:=mY h.2 (show i+1 < l.length by omega)
  simp only [fO,Bool.and_eq_true,Bool.or_eq_true,beq_iff_eq,decide_eq_true_eq,Nat.add_sub_cancel] at this
  have h1:=this.1.2
  rw [Ni,Ni,List.getD_eq_getElem?_getD,List.getD_eq_getElem?_getD,List.getElem?_eq_getElem (show i < l.length by omega),List.getElem?_eq_getElem (show i+1 < l.length by omega)] at h1
  simp only [Option.getD_some] at h1
  simp only [Nat.add_zero]
  omega
 |d+1,i,hj=>by
  have h1:=jQ h 0 i (by omega)
  have h2:=jQ h d (i+1) (by omega)
  simp only [Nat.add_zero] at h1
  have e:i+1+d+1=i+(d+1)+1:=by omega
  simp only [e] at h2
  omega
theorem yb {l:List AddrD} (h:cw l=true) {i j:Nat} (hi:i < l.length) (hj:j < l.length) (he:l[i].id=l[j].id):i=j:=by
 rcases Nat.lt_trichotomy i j with hl|hl|hl
 ·have:=jQ h (j - i - 1) i (by omega)
  have e:i+(j - i - 1)+1=j:=by omega
  simp only [e] at this
  omega
 ·exact hl
 have:=jQ h (i - j - 1) j (by omega)
 have e:j+(i - j - 1)+1=i:=by omega
 simp only [e] at this
 omega
theorem zj {l:List AddrD} (h:cw l=true) {a:AddrD} (ha:a∈l):∃ j:Nat,∃ hj:j < l.length,bv l a.id=(j:Int)∧l[j]=a:=by
 obtain⟨i,hi,rfl⟩:=List.getElem_of_mem ha
 rcases mH (p:=fun b:AddrD=>b.id == l[i].id) (l:=l) with h1|⟨h1,h2⟩
 ·exfalso
  have hx:∀ (m:List AddrD) (k:Nat) (b:AddrD),b∈m→(b.id == l[i].id)=true→dX (fun b:AddrD=>b.id == l[i].id) k m≠ -1:=by
   intro m
   induction m with
   |nil=>intro k b hb;cases hb
   |cons c m ih=>
    intro k b hb hp
    rw [dX]
    split
    ·omega
    rename_i hc
    rcases List.mem_cons.1 hb with rfl|hb
    ·exact absurd hp hc
    exact ih (k+1) b hb hp
  exact hx l 0 l[i] ha (by simp) h1
 obtain⟨n,hn⟩:=Int.eq_ofNat_of_zero_le h1
 obtain⟨hl,hp⟩:=qw hn
 have hid:l[n].id=l[i].id:=by simpa using hp
 obtain rfl:=yb h hl hi hid
 exact⟨n,hi,hn,rfl⟩
def kJ (l:List AddrD):List AddrD:=l.filter fun a=> !a.told
theorem YR {e:EndD} (h:EY e=false):cI e=[]:=if_neg (by simp [h])
theorem YS {e:EndD} {k:Nat} (h:EY e=true) (hk:(gz e.subs).headD 0=k) (hl:k < e.subs.length):cI e=(kJ e.own).map (uB e e.subs[k]):=by rw [cI,if_pos h,hk,bR hl];rfl
theorem uK {l:List Nat} (h:0 < l.length):l.headD 0=l[0]:=by cases l with|nil=>simp at h|cons a r=>rfl
theorem tC (l:List AddrD) (hl:l.length≤1048576):ae Tryz.prog 279 [.sc (.sl 0 0 l.length)] [some ⟨l.map AddrD.cs,4,88,false,true⟩] (.sc (.sl 1 0 (kJ l).length)) [some ⟨l.map AddrD.cs,4,88,false,true⟩,some ⟨((kJ l).map AddrD.id).map aC,1,3,true,true⟩]:=by
 obtain⟨R,hR⟩:∃ R,R=kJ l:=⟨_,rfl⟩
 rw [←hR]
 rw [kJ] at hR
 refine qE Tryz.func279 Tryz.ntmps279 Tryz.results279 fun E hE=>?_
 refine an 1 hE (fun s (x:Nat×List AddrD)=>s.at (qU [5,21]) [(4,.sc (.int .i64 (x.1:Nat))),(3,.sc (.sl 1 0 x.2.length))] ((s.hp.take 1)++[some ⟨(x.2.map AddrD.id).map aC,1,3,true,true⟩])) (fun (x:Nat×List AddrD)=>x.1≤l.length∧x.2.length≤x.1∧R=x.2++(l.drop x.1).filter (fun a=> !a.told)) (fun (x:Nat×List AddrD)=>l.length - x.1) (0,[]) (qI 0 2) (qC) (⟨Nat.zero_le _,Nat.zero_le _,hR⟩) (af (by rfl) (by rfl) ?_) fun x hx N hN=>?_
 ·exact qY
 obtain⟨k,acc⟩:=x
 obtain⟨h1,h2,h3⟩:=hx
 dsimp only at h1 h2 h3
 refine qR ?_
 refine qB (fun h=>?_) fun h=>?_
 ·rw [im h] at h3
  have hg:=ao (enc:=AddrD.cs) h
  try simp (disch:=omega) only [go_sem,seval,hg]
  cases ht:l[k].told with
  |true=>
   rw [if_neg (by simp [ht])] at h3
   try simp (disch:=omega) only [go_sem,seval,ht]
   exact qN hN (k+1,acc) (qI 0 2) (by (try dsimp only);exact⟨by omega,by omega,h3⟩)
  |false=>
   rw [if_pos (by simp [ht])] at h3
   try simp (disch:=omega) only [go_sem,seval,ht,hg]
   refine⟨qC,hN _ (k+1,acc++[l[k]]) (qI 0 1++qI 3 1) (by (try dsimp only);exact⟨by omega,by simp;omega,by simpa using h3⟩) (by (try dsimp only);omega) (af (by rfl) (by rfl) ?_)⟩
   refine qX ?_
   simp [aC]
 rw [jn (by omega),List.append_nil] at h3
 subst h3
 exact qF (qI 0 2)
theorem yc {e:EndD} (h:aj e=true):cw e.own=true:=by
 simp only [aj,Bool.and_eq_true] at h
 simp_all
theorem rW (e:EndD) (hs:Small e):ae Tryz.prog 296 [.ag (e.cs 0)] (e.hp false) (.sc (.sl 7 0 (cI e).length)) (e.hp false++[some ⟨(cI e).map LetterD.cs,19,91,true,true⟩]):=by
 have hN:=nL e (by have:=hs.subs;omega)
 have hK:=(qH (bf e))
 have hown:=hs.own
 have hf:=YR (e:=e)
 have ht:= @YS e
 have hok:EY e=(aj e && decide (e.state=2) && !decide ((gz e.subs).length=0)):=rfl
 obtain⟨R,hR⟩:∃ R,R=cI e:=⟨_,rfl⟩
 rw [←hR] at hf ht
 rw [←hR]
 clear hR
 refine ga Tryz.func296 Tryz.ntmps296 Tryz.results296 fun E hE=>?_
 refine qK (hN) (qI 0 7) ?_
 refine qK (hK) (qI 0 7) ?_
 refine qB (fun h1=>?_) fun h1=>?_
 ·refine qB (fun h2=>?_) fun h2=>?_
  ·by_cases h3:(gz e.subs).length=0
   ·rw [hf (by rw [hok];simp [h3])]
    try simp (disch:=omega) only [go_sem,seval,h3]
    exact cc (qI 0 7++qO 1)
   have hpos:0 < (gz e.subs).length:=by omega
   have hk:=nH hpos
   have hR:=ht (by rw [hok];simp [h1,h2,h3]) (uK hpos) hk
   have hgo:=ao (enc:=iK) hpos
   generalize hk0:(gz e.subs)[0]=k0 at*
   have hgs:=ao (enc:=SubD.cs) hk
   generalize hss:e.subs[k0]=s0 at*
   refine qX ?_
   refine qD [0,1,2,3,4,5,6,7,8] ?_
   try simp (disch:=omega) only [go_sem,seval,hgo,hk0,iK,hgs,hss]
   refine qG ?_
   refine cE 7 hE (fun s (y:Nat×List LetterD)=>s.at (qU [0,1,3,1,7,24,34,31]) [(33,.sc (.int .i64 (y.1:Nat))),(5,.sc (.sl 10 0 y.2.length))] ((s.hp.take 10)++[some ⟨y.2.map LetterD.cs,19,91,true,true⟩])) (fun (y:Nat×List LetterD)=>y.1≤e.own.length∧y.2.length≤y.1∧R=y.2++((e.own.drop y.1).filter (fun a=> !a.told)).map (uB e s0)) (fun (y:Nat×List LetterD)=>e.own.length - y.1) (0,[]) (qI 0 10++qO 1) (qC) (⟨Nat.zero_le _,Nat.zero_le _,hR⟩) (ab (by rfl) (by rfl) ?_) fun y hy N hN=>?_
   ·exact qY
   obtain⟨i,l⟩:=y
   obtain⟨g1,g2,g3⟩:=hy
   dsimp only at g1 g2 g3
   refine qR ?_
   refine qB (fun b=>?_) fun b=>?_
   ·rw [im b] at g3
    have hg:=ao (enc:=AddrD.cs) b
    generalize hae:e.own[i]=a at*
    try simp (disch:=omega) only [go_sem,seval,hg,hae]
    cases htd:a.told with
    |true=>
     rw [if_neg (by simp [htd])] at g3
     try simp (disch:=omega) only [go_sem,seval,htd]
     exact UH hN (i+1,l) (qI 0 11) (by (try dsimp only);exact⟨by omega,by omega,g3⟩)
    |false=>
     rw [if_pos (by simp [htd]),List.map_cons] at g3
     try simp (disch:=omega) only [go_sem,seval,htd]
     refine qD [0,1,2,3,4,5,6,7,8,9,10,11,12,13,14,15,16,17,18,19,20,21,22,23,24] ?_
     refine az (mP e.key e.peer a.id a.addr) [] ?_
     refine az (bg s0.road { aw with kind:=8,tag:=⟨3,e.key,e.peer,a.id,a.addr⟩,sgn:=s0.give,id:=a.id,addr:=a.addr,spare:=a.spare }) [] ?_
     refine qG ?_
     refine⟨qC,hN _ (i+1,l++[uB e s0 a]) (qI 0 10++qI 13 1) (by (try dsimp only);exact⟨by omega,by simp;omega,by simpa using g3⟩) (by (try dsimp only);omega) (ab (by rfl) (by rfl) ?_)⟩
     refine qX ?_
     rw [List.map_append]
     rfl
   rw [jn (by omega),List.map_nil,List.append_nil] at g3
   subst g3
   refine qX ?_
   exact cc (qI 0 7++qI 10 1)
  rw [hf (by rw [hok];simp [h2])]
  refine qX ?_
  exact cc (qI 0 7++qO 1)
 rw [hf (by rw [hok];simp [h1])]
 refine qX ?_
 exact cc (qI 0 7++qO 1)
theorem rX (e:EndD) (hs:Small e):ae Tryz.prog 208 [.ag (e.cs 0)] (e.hp false) (.sc (.sl 7 0 (cI e).length)) (e.hp false++[some ⟨(cI e).map LetterD.cs,19,91,true,true⟩]):=by
 have hN:=nM e (by have:=hs.subs;omega)
 have hK:=(qH (be e))
 have hown:=hs.own
 have hf:=YR (e:=e)
 have ht:= @YS e
 have hok:EY e=(aj e && decide (e.state=2) && !decide ((gz e.subs).length=0)):=rfl
 obtain⟨R,hR⟩:∃ R,R=cI e:=⟨_,rfl⟩
 rw [←hR] at hf ht
 rw [←hR]
 clear hR
 refine ga Tryz.func208 Tryz.ntmps208 Tryz.results208 fun E hE=>?_
 refine qK (hN) (qI 0 7) ?_
 refine qK (hK) (qI 0 7) ?_
 refine qB (fun h1=>?_) fun h1=>?_
 ·refine qB (fun h2=>?_) fun h2=>?_
  ·by_cases h3:(gz e.subs).length=0
   ·rw [hf (by rw [hok];simp [h3])]
    try simp (disch:=omega) only [go_sem,seval,h3]
    exact cc (qI 0 7++qI 8 1)
   have hpos:0 < (gz e.subs).length:=by omega
   have hk:=nH hpos
   have hR:=ht (by rw [hok];simp [h1,h2,h3]) (uK hpos) hk
   have hgo:=ao (enc:=iK) hpos
   generalize hk0:(gz e.subs)[0]=k0 at*
   have hgs:=ao (enc:=SubD.cs) hk
   generalize hss:e.subs[k0]=s0 at*
   refine qX ?_
   refine qD [0,1,2,3,4,5,6,7,8] ?_
   try simp (disch:=omega) only [go_sem,seval,hgo,hk0,iK,hgs,hss]
   refine qG ?_
   have hU:=tC e.own hown
   have hul:(kJ e.own).length≤e.own.length:=List.length_filter_le _ _
   have hmem:∀ a∈kJ e.own,a∈e.own:=fun a ha=>(List.mem_filter.1 ha).1
   generalize kJ e.own=U at*
   refine qK (hU) (qI 0 1) ?_
   refine cE 7 hE (fun s (y:Nat×List LetterD)=>s.at (qU [0,1,4,1,8,69]) [(7,.sc (.int .i64 (y.1:Nat))),(5,.sc (.pt 9 0 0)),(6,.sc (.sl 10 0 U.length)),(3,.sc (.sl 11 0 y.2.length))] ((s.hp.take 8)++(((s.hp.drop 9).take 3)++[some ⟨y.2.map LetterD.cs,19,91,true,true⟩]))) (fun (y:Nat×List LetterD)=>y.1≤U.length∧y.2.length≤y.1∧R=y.2++(U.drop y.1).map (uB e s0)) (fun (y:Nat×List LetterD)=>U.length - y.1) (0,[]) (qI 0 8++qI 9 3++qI 8 1) (qC) (⟨Nat.zero_le _,Nat.zero_le _,hR⟩) (ab (by rfl) (by rfl) ?_) fun y hy N hN=>?_
   ·exact qY
   obtain⟨i,l⟩:=y
   obtain⟨g1,g2,g3⟩:=hy
   dsimp only at g1 g2 g3
   refine qR ?_
   refine qB (fun b=>?_) fun b=>?_
   ·rw [List.drop_eq_getElem_cons b,List.map_cons] at g3
    have hbl:i < (U.map AddrD.id).length:=by simpa using b
    have hg:=ao (enc:=aC) hbl
    rw [List.getElem_map] at hg
    obtain⟨j,hj,hat,hja⟩:=zj (yc h1) (hmem U[i] (List.getElem_mem b))
    have hA:=dh e.own U[i].id hown
    rw [hat] at hA
    have hgj:=ao (enc:=AddrD.cs) hj
    rw [hja] at hgj
    generalize hae:U[i]=a at*
    simp only [aC] at hg
    have hel:e.own[j]=a:=hja
    refine qX ?_
    refine aI [(8,11),(11,9),(11,10)] [(8,9),(9,10)] [(qU [0,9,11,1,9,2,12,1]),(qU [0,10,11,1,10,1,12,1]),(qU [0,13]),(qU [0,8,11,1,8,3,12,1])] 7 hE (fun s=>s.at (qU [42,11]) [(8,.sc (.pt 12 0 0))] (s.hp++[some ⟨[a.cs],4,88,true,false⟩])) (by kernel_rfl) (qC) (by kernel_rfl) ?_ (ac 400 ?_)
    rotate_left
    rotate_right
    simp only [aQ]
    refine⟨aa 400 ?_,aa 400 ?_,aa 400 ?_,aa 400 ?_⟩
    ·simp (disch:=omega) only [go_sem,hg,hae]
     refine az (hA) (qI 0 1) ?_
     simp (disch:=omega) only [go_sem,hgj,hel]
     refine⟨by (try simp (disch:=omega) only [go_sem,List.length_set,seval,hgj,hel])<;>omega,(qI 0 13),ab (by rfl) (by rfl) ?_⟩
     try simp (disch:=omega) only [go_sem,seval]
    ·simp (disch:=omega) only [go_sem,hg,hae]
     refine az (hA) (qI 0 1) ?_
     simp (disch:=omega) only [go_sem,hgj,hel]
     refine⟨by (try simp (disch:=omega) only [go_sem,List.length_set,seval,hgj,hel])<;>omega,(qI 0 13),ab (by rfl) (by rfl) ?_⟩
     try simp (disch:=omega) only [go_sem,seval]
    ·simp (disch:=omega) only [go_sem,hg,hae]
     refine az (hA) (qI 0 1) ?_
     simp (disch:=omega) only [go_sem,hgj,hel]
     refine⟨by (try simp (disch:=omega) only [go_sem,List.length_set,seval,hgj,hel])<;>omega,(qI 0 13),ab (by rfl) (by rfl) ?_⟩
     try simp (disch:=omega) only [go_sem,seval]
    ·simp (disch:=omega) only [go_sem,hg,hae]
     refine az (hA) (qI 0 1) ?_
     simp (disch:=omega) only [go_sem,hgj,hel]
     refine⟨by (try simp (disch:=omega) only [go_sem,List.length_set,seval,hgj,hel])<;>omega,(qI 0 13),ab (by rfl) (by rfl) ?_⟩
     try simp (disch:=omega) only [go_sem,seval]
    refine qX ?_
    refine qD [0,1,2,3,4,5,6,7,8,9,10,11,12,13,14,15,16,17,18,19,20,21,22,23,24] ?_
    refine az (mQ e.key e.peer a.id a.addr) [] ?_
    refine az (aX s0.road { aw with kind:=8,tag:=⟨3,e.key,e.peer,a.id,a.addr⟩,sgn:=s0.give,id:=a.id,addr:=a.addr,spare:=a.spare }) [] ?_
    refine qG ?_
    refine⟨qC,hN _ (i+1,l++[uB e s0 a]) (qI 0 11++qI 14 1) (by (try dsimp only);exact⟨by omega,by simp;omega,by simpa using g3⟩) (by (try dsimp only);omega) (ab (by rfl) (by rfl) ?_)⟩
    refine qX ?_
    rw [List.map_append]
    rfl
   rw [List.drop_eq_nil_of_le (by omega),List.map_nil,List.append_nil] at g3
   subst g3
   refine qX ?_
   exact cc (qI 0 7++qI 11 1)
  rw [hf (by rw [hok];simp [h2])]
  refine qX ?_
  exact cc (qI 0 7++qI 8 1)
 rw [hf (by rw [hok];simp [h1])]
 refine qX ?_
 exact cc (qI 0 7++qI 8 1)
end
section
open Go.RowKit
def cy {α:Type} (f:α→α) (l:List α) (k:Nat):List α:=(l.take k).map f++l.drop k
theorem kW {α:Type} {f:α→α} {l:List α} {k:Nat}:(cy f l k).length=l.length:=by simp [cy];omega
theorem E1 {α:Type} {f:α→α} {l:List α} {k:Nat} (h:k < l.length):(cy f l k)[k]? =some l[k]:=by
 have h1:((l.take k).map f).length=k:=by simp;omega
 rw [cy,List.getElem?_append_right (by omega),List.drop_eq_getElem_cons h,h1]
 simp
theorem kX {α:Type} {f:α→α} {l:List α} {k:Nat} (h:k < l.length):∀ p:k < (cy f l k).length,(cy f l k)[k]'p=l[k]:=by
 intro p
 have hq:=E1 (f:=f) h
 rw [List.getElem?_eq_getElem p] at hq
 exact Option.some.inj hq
theorem kY {α:Type} {f:α→α} {l:List α} {k:Nat} (h:k < l.length):(cy f l k).set k (f l[k])=cy f l (k+1):=by
 have h1:((l.take k).map f).length=k:=by simp;omega
 rw [cy,cy,List.set_append_right _ _ (by omega),List.take_succ_eq_append_getElem h,List.map_append,h1]
 simp
 rw [List.drop_eq_getElem_cons h]
 rfl
theorem jR {α:Type} {f:α→α} {l:List α} {k:Nat} (h:k < l.length) (hs:f l[k]=l[k]):cy f l (k+1)=cy f l k:=by
 rw [cy,cy,List.take_succ_eq_append_getElem h,List.map_append,List.drop_eq_getElem_cons h]
 simp [hs]
theorem jS {α:Type} {f:α→α} {l:List α}:cy f l 0=l:=by simp [cy]
theorem kZ {α:Type} {f:α→α} {l:List α}:cy f l l.length=l.map f:=by simp [cy]
theorem YT {e:EndD} {n:Int} (h:A8 e n=false):bb e n=(e,[]):=if_neg (by simp [h])
theorem YU {e:EndD} {n:Int} {i:Nat} (h:A8 e n=true) (hi:bv e.own n=(i:Int)) (hl:i < e.own.length):
  bb e n=({ e with own:=(bz e.own n).1,done:=iL e.done n,subs:=e.subs.map (eZ e.own[i].addr) },(gz (e.subs.map (eZ e.own[i].addr))).map fun k=>uC n (bq (e.subs.map (eZ e.own[i].addr)) k)):=by
 rw [bb,if_pos h,gO,hi,Int.toNat_natCast,iz hl]
theorem rY {e:EndD} (h:aj e=true):e.done.length≤256:=(nU h).1
theorem nk (e:EndD) (n:Int) (hs:Small e):ae Tryz.prog 152 [.ag (e.cs 0),.sc (.int .i64 n)] (e.hp false) (.tu [.ag ((bb e n).1.cs 7),.sc (.sl 14 0 (bb e n).2.length)])
  (e.hp false++((bb e n).1.hp true++[some ⟨(bb e n).2.map LetterD.cs,19,91,true,true⟩])):=by
 have hC:=(qH (aK e))
 have hK:=(qH (bf e))
 have hA:=d4 e.own n (by have:=hs.own;omega)
 have hD:=lE e.own n (by have:=hs.own;omega)
 have hsb:=hs.subs
 have hso:=hs.own
 have hbd:=dv e.own n
 have hf:=YT (e:=e) (n:=n)
 have ht:= @YU e n
 have hok:A8 e n=(aj e && decide (e.state=2) && decide (0≤bv e.own n)):=rfl
 obtain⟨R,hR⟩:∃ R,R=bb e n:=⟨_,rfl⟩
 rw [←hR] at hf ht
 rw [←hR]
 clear hR
 refine ga Tryz.func152 Tryz.ntmps152 Tryz.results152 fun E hE=>?_
 refine qK (hC) (qI 0 7) ?_
 refine qK (hA) (qI 0 1) ?_
 rcases hbd with hi0|⟨hi0,hi1⟩
 ·rw [hf (by rw [hok,hi0];simp)]
  rw [hi0]
  refine qX ?_
  refine qK (hK) (qI 0 7) ?_
  refine qB (fun h1=>?_) fun h1=>?_
  ·refine qB (fun h2=>?_) fun h2=>?_
   ·refine qX ?_
    exact cc (qI 0 7++qI 9 7++qO 1)
   refine qX ?_
   exact cc (qI 0 7++qI 9 7++qO 1)
  refine qX ?_
  exact cc (qI 0 7++qI 9 7++qO 1)
 obtain⟨i,hi⟩:=Int.eq_ofNat_of_zero_le hi0
 have hil:i < e.own.length:=by omega
 rw [hi]
 refine qX ?_
 refine qK (hK) (qI 0 7) ?_
 refine qB (fun h1=>?_) fun h1=>?_
 ·refine qB (fun h2=>?_) fun h2=>?_
  ·have hR:=ht (by rw [hok,h1,h2,hi];simp) hi hil
   have hdl:(bz e.own n).1.length≤e.own.length:=by rw [gt hi];simp;omega
   have hgo:=ao (enc:=AddrD.cs) hil
   generalize hv:e.own[i].addr=v at hR
   try simp (disch:=omega) only [go_sem,seval,hgo,hv]
   refine qK (hD) (qI 0 1) ?_
   refine qK (xH e.done n (by have:=rY h1;omega)) (qI 5 1) ?_
   refine cE 7 hE (fun s (k:Nat)=>s.at (qU [0,1,2,1,7,1,9,1,13,40,55,17]) [(54,.sc (.int .i64 (k:Nat)))] (s.hp.set 11 (some ⟨(cy (eZ v) e.subs k).map SubD.cs,10,201,true,true⟩))) (fun (k:Nat)=>k≤e.subs.length) (fun (k:Nat)=>e.subs.length - k) 0 (qI 0 19) (qC) (Nat.zero_le _) (ab (by rfl) (by rfl) ?_) fun k hk N hN=>?_
   ·refine qX ?_
    rw [jS]
   refine ac 400 ?_
   have hgl:(cy (eZ v) e.subs k).length=e.subs.length:=kW
   refine qX ?_
   refine qB (fun h=>?_) fun h=>?_
   ·have hg:=kX (f:=eZ v) h
    try simp (disch:=omega) only [go_sem,seval,hg]
    refine qB (fun h9=>?_) fun h9=>?_
    ·refine qX ?_
     refine⟨qC,hN _ (k+1) (qI 0 19) (by (try dsimp only);exact by omega) (by (try dsimp only);omega) (ab (by rfl) (by rfl) ?_)⟩
     refine qX ?_
     rw [←kY h,List.map_set]
     simp [eZ,h9,hg,SubD.cs]
    refine qX ?_
    refine⟨qC,hN _ (k+1) (qI 0 19) (by (try dsimp only);exact by omega) (by (try dsimp only);omega) (ab (by rfl) (by rfl) ?_)⟩
    refine qX ?_
    rw [jR h (by rw [eZ,if_neg h9])]
   have hkl:k=e.subs.length:=by omega
   subst hkl
   rw [kZ]
   have hdl2:(e.subs.map (eZ v)).length≤1048576:=by rw [List.length_map];exact hsb
   have hO:=nL { e with own:=(bz e.own n).1,done:=iL e.done n,subs:=e.subs.map (eZ v) } hdl2
   have hlen:(e.subs.map (eZ v)).length=e.subs.length:=List.length_map ..
   generalize hDD:e.subs.map (eZ v)=D at*
   clear hDD
   rw [←hlen]
   refine qX ?_
   refine qK (hO) (qI 17 1++qI 10 4++qI 18 1++qI 15 1) ?_
   have honl:=jx D
   refine cE 7 hE (fun s (y:Nat×List LetterD)=>s.at (qU [0,1,2,1,7,3,12,61,76,22]) [(75,.sc (.int .i64 (y.1:Nat))),(10,.sc (.sl 20 0 y.2.length))] ((s.hp.take 20)++[some ⟨y.2.map LetterD.cs,19,91,true,true⟩])) (fun (y:Nat×List LetterD)=>y.1≤(gz D).length∧y.2.length≤y.1∧R=({ e with own:=(bz e.own n).1,done:=iL e.done n,subs:=D },y.2++((gz D).drop y.1).map fun k=>uC n (bq D k))) (fun (y:Nat×List LetterD)=>(gz D).length - y.1) (0,[]) (qI 0 20++qO 1) (qC) (⟨Nat.zero_le _,Nat.zero_le _,hR⟩) (ab (by rfl) (by rfl) ?_) fun y hy N2 hN2=>?_
   ·exact qY
   obtain⟨q,l⟩:=y
   obtain⟨g1,g2,g3⟩:=hy
   dsimp only at g1 g2 g3
   refine qR ?_
   refine qB (fun b=>?_) fun b=>?_
   ·have hkq:=nH b
    rw [List.drop_eq_getElem_cons b,List.map_cons] at g3
    have hgq:=ao (enc:=iK) b
    generalize hk0:(gz D)[q]=k0 at*
    rw [bR hkq] at g3
    have hgs:=ao (enc:=SubD.cs) hkq
    generalize hss:D[k0]=s0 at*
    have hB:=bg s0.road { aw with kind:=10,sgn:=s0.give,id:=n }
    try simp (disch:=omega) only [go_sem,seval,hgq,hk0,iK]
    refine qD [0,1,2,3,4,5,6,7,8,9,10,11,12,13,14,15,16,17,18] ?_
    try simp (disch:=omega) only [go_sem,seval,hgs,hss]
    refine az (hB) [] ?_
    refine qG ?_
    refine⟨qC,hN2 _ (q+1,l++[uC n s0]) (qI 0 20++qI 22 1) (by (try dsimp only);exact⟨by omega,by simp;omega,by simpa using g3⟩) (by (try dsimp only);omega) (ab (by rfl) (by rfl) ?_)⟩
    refine qX ?_
    rw [List.map_append]
    rfl
   rw [List.drop_eq_nil_of_le (by omega),List.map_nil,List.append_nil] at g3
   subst g3
   refine qX ?_
   exact cc (qI 0 7++qI 17 1++qI 10 4++qI 18 1++qI 15 1++qI 20 1)
  rw [hf (by rw [hok];simp [h2])]
  refine qX ?_
  exact cc (qI 0 7++qI 9 7++qO 1)
 rw [hf (by rw [hok];simp [h1])]
 refine qX ?_
 exact cc (qI 0 7++qI 9 7++qO 1)
theorem nl (e:EndD) (n:Int) (hs:Small e):ae Tryz.prog 121 [.ag (e.cs 0),.sc (.int .i64 n)] (e.hp false) (.tu [.ag ((bb e n).1.cs 7),.sc (.sl 14 0 (bb e n).2.length)])
  (e.hp false++((bb e n).1.hp true++[some ⟨(bb e n).2.map LetterD.cs,19,91,true,true⟩])):=by
 have hC:=(qH (aD e))
 have hK:=(qH (be e))
 have hA:=dh e.own n (by have:=hs.own;omega)
 have hD:=lF e.own n (by have:=hs.own;omega)
 have hsb:=hs.subs
 have hso:=hs.own
 have hbd:=dv e.own n
 have hf:=YT (e:=e) (n:=n)
 have ht:= @YU e n
 have hok:A8 e n=(aj e && decide (e.state=2) && decide (0≤bv e.own n)):=rfl
 obtain⟨R,hR⟩:∃ R,R=bb e n:=⟨_,rfl⟩
 rw [←hR] at hf ht
 rw [←hR]
 clear hR
 refine ga Tryz.func121 Tryz.ntmps121 Tryz.results121 fun E hE=>?_
 refine qK (hC) (qI 0 7) ?_
 refine qK (hA) (qI 0 1) ?_
 rcases hbd with hi0|⟨hi0,hi1⟩
 ·rw [hf (by rw [hok,hi0];simp)]
  rw [hi0]
  refine qX ?_
  refine qK (hK) (qI 0 7) ?_
  refine qB (fun h1=>?_) fun h1=>?_
  ·refine qB (fun h2=>?_) fun h2=>?_
   ·refine qX ?_
    exact cc (qI 0 7++qI 9 7++qI 17 1)
   refine qX ?_
   exact cc (qI 0 7++qI 9 7++qI 17 1)
  refine qX ?_
  exact cc (qI 0 7++qI 9 7++qI 17 1)
 obtain⟨i,hi⟩:=Int.eq_ofNat_of_zero_le hi0
 have hil:i < e.own.length:=by omega
 rw [hi]
 refine qX ?_
 refine qK (hK) (qI 0 7) ?_
 refine qB (fun h1=>?_) fun h1=>?_
 ·refine qB (fun h2=>?_) fun h2=>?_
  ·have hR:=ht (by rw [hok,h1,h2,hi];simp) hi hil
   have hdl:(bz e.own n).1.length≤e.own.length:=by rw [gt hi];simp;omega
   have hgo:=ao (enc:=AddrD.cs) hil
   generalize hv:e.own[i].addr=v at hR
   try simp (disch:=omega) only [go_sem,seval,hgo,hv]
   refine qK (oN e.done n (by have:=rY h1;omega)) (qI 5 1) ?_
   refine qK (hD) (qI 0 1) ?_
   refine cE 7 hE (fun s (k:Nat)=>s.at (qU [0,1,13,60]) [(9,.sc (.int .i64 (k:Nat)))] (s.hp.set 11 (some ⟨(cy (eZ v) e.subs k).map SubD.cs,10,201,true,true⟩))) (fun (k:Nat)=>k≤e.subs.length) (fun (k:Nat)=>e.subs.length - k) 0 (qI 0 20) (qC) (Nat.zero_le _) (ab (by rfl) (by rfl) ?_) fun k hk N hN=>?_
   ·refine qX ?_
    rw [jS]
   refine ac 400 ?_
   have hgl:(cy (eZ v) e.subs k).length=e.subs.length:=kW
   refine qX ?_
   refine qB (fun h=>?_) fun h=>?_
   ·have hg:=kX (f:=eZ v) h
    try simp (disch:=omega) only [go_sem,seval,hg]
    refine qD [0,1,2,3,4,5,6,7,8,9,10,11,12,13] ?_
    refine⟨qC,ac 400 ?_⟩
    try simp (disch:=omega) only [go_sem,seval,hg,hgo,hv]
    refine qB (fun h9=>?_) fun h9=>?_
    ·refine qX ?_
     refine⟨qC,hN _ (k+1) (qI 0 20) (by (try dsimp only);exact by omega) (by (try dsimp only);omega) (ab (by rfl) (by rfl) ?_)⟩
     refine qX ?_
     rw [←kY h,List.map_set]
     simp [eZ,h9,hg,SubD.cs]
    refine qX ?_
    refine⟨qC,hN _ (k+1) (qI 0 20) (by (try dsimp only);exact by omega) (by (try dsimp only);omega) (ab (by rfl) (by rfl) ?_)⟩
    refine qX ?_
    rw [jR h (by rw [eZ,if_neg h9])]
   have hkl:k=e.subs.length:=by omega
   subst hkl
   rw [kZ]
   have hdl2:(e.subs.map (eZ v)).length≤1048576:=by rw [List.length_map];exact hsb
   have hO:=nM { e with own:=(bz e.own n).1,done:=iL e.done n,subs:=e.subs.map (eZ v) } hdl2
   have hlen:(e.subs.map (eZ v)).length=e.subs.length:=List.length_map ..
   generalize hDD:e.subs.map (eZ v)=D at*
   clear hDD
   rw [←hlen]
   refine qX ?_
   refine qK (hO) (qI 19 1++qI 10 4++qI 18 1++qI 15 1) ?_
   have honl:=jx D
   refine cE 7 hE (fun s (y:Nat×List LetterD)=>s.at (qU [0,1,2,1,8,2,12,87]) [(11,.sc (.int .i64 (y.1:Nat))),(7,.sc (.sl 17 0 y.2.length))] (s.hp.set 17 (some ⟨y.2.map LetterD.cs,19,91,true,true⟩))) (fun (y:Nat×List LetterD)=>y.1≤(gz D).length∧y.2.length≤y.1∧R=({ e with own:=(bz e.own n).1,done:=iL e.done n,subs:=D },y.2++((gz D).drop y.1).map fun k=>uC n (bq D k))) (fun (y:Nat×List LetterD)=>(gz D).length - y.1) (0,[]) (qI 0 21) (qC) (⟨Nat.zero_le _,Nat.zero_le _,hR⟩) (ab (by rfl) (by rfl) ?_) fun y hy N2 hN2=>?_
   ·exact qY
   obtain⟨q,l⟩:=y
   obtain⟨g1,g2,g3⟩:=hy
   dsimp only at g1 g2 g3
   refine qR ?_
   refine qB (fun b=>?_) fun b=>?_
   ·have hkq:=nH b
    rw [List.drop_eq_getElem_cons b,List.map_cons] at g3
    have hgq:=ao (enc:=iK) b
    generalize hk0:(gz D)[q]=k0 at*
    rw [bR hkq] at g3
    have hgs:=ao (enc:=SubD.cs) hkq
    generalize hss:D[k0]=s0 at*
    have hB:=aX s0.road { aw with kind:=10,sgn:=s0.give,id:=n }
    refine qX ?_
    refine qD [0,1,2,3,4,5,6,7,8,9] ?_
    try simp (disch:=omega) only [go_sem,seval,hgq,hk0,iK,hgs,hss]
    refine qG ?_
    refine qK (hB) [] ?_
    refine⟨qC,hN2 _ (q+1,l++[uC n s0]) (qI 0 17++qI 23 1++qI 18 3) (by (try dsimp only);exact⟨by omega,by simp;omega,by simpa using g3⟩) (by (try dsimp only);omega) (ab (by rfl) (by rfl) ?_)⟩
    refine qX ?_
    rw [List.map_append]
    rfl
   rw [List.drop_eq_nil_of_le (by omega),List.map_nil,List.append_nil] at g3
   subst g3
   refine qX ?_
   exact cc (qI 0 7++qI 19 1++qI 10 4++qI 18 1++qI 15 1++qI 17 1)
  rw [hf (by rw [hok];simp [h2])]
  refine qX ?_
  exact cc (qI 0 7++qI 9 7++qI 17 1)
 rw [hf (by rw [hok];simp [h1])]
 refine qX ?_
 exact cc (qI 0 7++qI 9 7++qI 17 1)
end
section
open Go.RowKit
theorem k_ {α:Type} {p:α→Bool} {l:List α} {k:Nat} (h:k < l.length):(l.drop k).all p=(p l[k] && (l.drop (k+1)).all p):=by
 rw [List.drop_eq_getElem_cons h,List.all_cons]
theorem rZ {α β:Type} {f:α→List β} {l:List α} {k:Nat} (h:k < l.length):(l.drop k).flatMap f=f l[k]++(l.drop (k+1)).flatMap f:=by
 rw [List.drop_eq_getElem_cons h,List.flatMap_cons]
theorem lc (e:EndD) (s:SubD):(eP e s).length≤1:=by
 rw [eP];split
 ·split
  ·simp
  split
  ·simp
  split<;>simp
 simp
theorem nm {α β:Type} {f:α→List β} (hf:∀ a,(f a).length≤1):∀ (l:List α),(l.flatMap f).length≤l.length
 |[]=>by simp
 |a::l=>by
  have h1:=hf a
  have h2:=nm hf l
  rw [List.flatMap_cons,List.length_append,List.length_cons]
  omega
theorem mj (l:List HalfD) (n:Int):(bM l n).length≤l.length:=List.length_filter_le _ _
theorem jT (e:EndD):(cI e).length≤e.own.length:=by
 rw [cI];split
 ·rw [List.length_map];exact List.length_filter_le _ _
 simp
theorem ld {e:EndD} (h:aj e=true) {k:Nat} (hk:k < e.subs.length):1≤e.subs[k].state∧e.subs[k].state≤4∧0≤e.subs[k].tries∧e.subs[k].tries≤1000000000:=by
 have h1:eE (cH e.subs) e.subs.length=true:=by
  simp only [aj,Bool.and_eq_true] at h
  simp_all
 have h2:=mY h1 hk
 simp only [cH,bR hk,cr,iQ,List.all_cons,List.all_nil,Bool.and_eq_true,decide_eq_true_eq] at h2
 omega
theorem E2 {e:EndD} (h:Fl e=false):dt e=(e,[]):=if_neg (by simp [h])
theorem zk {e:EndD} (h:Fl e=true) (h2:e.state=2):dt e=ea { oU e with subs:=e.subs.map da } (e.subs.flatMap (eP e)):=by rw [dt,if_pos h,if_pos h2]
theorem zl {e:EndD} (h:Fl e=true) (h2:¬ e.state=2):dt e=ea (oU e) []:=by rw [dt,if_pos h,if_neg h2]
theorem E3 {e:EndD} {tk:SubD→SubD} {tl:SubD→List LetterD} (h:Fl e=true) (h1:tk=fun s=>if e.state=2 then da s else s) (h2:tl=fun s=>if e.state=2 then eP e s else []):
  dt e=ea { e with now:=e.now+1,bucket:=c8 e.bucket,halfs:=bM e.halfs (e.now+1),out:=fu e.out,subs:=e.subs.map tk } (e.subs.flatMap tl):=by
 by_cases hs:e.state=2
 ·have a1:tk=da:=by rw [h1];funext s;exact if_pos hs
  have a2:tl=eP e:=by rw [h2];funext s;exact if_pos hs
  rw [zk h hs,a1,a2];rfl
 have a1:tk=fun s=>s:=by rw [h1];funext s;exact if_neg hs
 have a2:tl=fun s=>[]:=by rw [h2];funext s;exact if_neg hs
 have e1:e.subs.flatMap (fun s:SubD=>([]:List LetterD))=[]:=by simp
 have e2:e.subs.map (fun s:SubD=>s)=e.subs:=by simp
 rw [zl h hs,a1,a2,e1,e2];rfl
theorem E4 {f:SubD→SubD} (h:∀ s,f s=s) (l:List SubD) (k:Nat):cy f l k=l:=by
 have hf:f=fun s=>s:=funext h
 rw [cy,hf];simp
theorem r_ {s:SubD} (h:¬ (s.state=1∨s.state=2)):da s=s:=if_neg h
theorem sa {e:EndD} {s:SubD} (h:¬ (s.state=1∨s.state=2)):eP e s=[]:=if_neg h
theorem se {s:SubD} (h:s.state=2) (h2:9≤s.tries+1):da s={ s with tries:=s.tries+1,state:=4 }:=by rw [da,if_pos (.inr h),if_pos ⟨h,h2⟩]
theorem sf {e:EndD} {s:SubD} (h:s.state=2) (h2:9≤s.tries+1):eP e s=[]:=by rw [eP,if_pos (.inr h),if_pos ⟨h,h2⟩]
theorem yd {s:SubD} (h:s.state=1∨s.state=2) (h2:¬ (s.state=2∧9≤s.tries+1)):da s={ s with tries:=s.tries+1 }:=by rw [da,if_pos h,if_neg h2]
theorem sg {e:EndD} {s:SubD} (h:s.state=1∨s.state=2) (h2:¬ (s.state=2∧9≤s.tries+1)) (h3:¬ (s.tries+1).tmod 3=0):eP e s=[]:=by rw [eP,if_pos h,if_neg h2,if_pos h3]
theorem uL {e:EndD} {s:SubD} (h:s.state=1) (h3:(s.tries+1).tmod 3=0):eP e s=[fv e s]:=by rw [eP,if_pos (.inl h),if_neg (by omega),if_neg (by simp [h3]),if_pos h]
theorem oY {e:EndD} {s:SubD} (h:s.state=2) (h2:¬ 9≤s.tries+1) (h3:(s.tries+1).tmod 3=0):eP e s=[cx e s]:=by rw [eP,if_pos (.inr h),if_neg (by omega),if_neg (by simp [h3]),if_neg (by omega)]
theorem nn (e:EndD) (l:List LetterD) (hs:Small e) (ht:e.out.text.length≤1048576) (hl:l.length≤1048576):ae Tryz.prog 233 [.ag (e.cs 0),.sc (.sl 7 0 l.length)] (e.hp true++[some ⟨l.map LetterD.cs,19,91,true,true⟩])
  (.tu [.ag ((ea e l).1.cs 8),.sc (.sl 15 0 (ea e l).2.length)]) ([none,none,none,none,none,none,none,none]++((ea e l).1.hp true++[some ⟨(ea e l).2.map LetterD.cs,19,91,true,true⟩])):=by
 have hT:=rW e hs
 have hTl:=jT e
 have hso:=hs.own
 have hP:=lO e hs ht
 have hPl:=kV (k:=3) (e:=e)
 rw [ea]
 generalize cI e=T at*
 generalize dU 3 e=Q at*
 obtain⟨e1,l1⟩:=Q
 dsimp only at hP hPl⊢
 refine ga Tryz.func233 Tryz.ntmps233 Tryz.results233 fun E hE=>?_
 refine qK (hT) (qI 0 7) ?_
 refine qK (hP) (qI 0 7) ?_
 refine aI [(0,3)] [] [[1,2,0,3,4,5],[1,2,3,0,4,5]] 8 hE (fun s=>s.at (qU [1,1,7,6,15,6]) [(5,.sc (.sl 21 0 (l.length+T.length+l1.length)))] (((s.hp.set 9 (some ⟨[[.int .i64 e1.side,.int .i64 e1.state,.int .i64 e1.key,.int .i64 e1.peer,.int .i64 e1.policy.kind,.int .i64 e1.policy.many,.sl 12 0 e1.own.length,.sl 13 0 e1.far.length,.sl 14 0 e1.subs.length,.sl 15 0 e1.halfs.length,.int .i64 e1.bucket.rate,.int .i64 e1.bucket.burst,.int .i64 e1.bucket.cur,.st e1.out.text,.int .i64 e1.out.base,.int .i64 e1.out.sent,.int .i64 e1.out.room,.int .i64 e1.inp.read,.st e1.inp.ready,.sl 16 0 e1.inp.list.length,.sl 17 0 e1.done.length,.sl 18 0 e1.over.length,.int .i64 e1.draw,.int .i64 e1.now,.int .i64 e1.pick]],25,45,true,false⟩)).set 11 none)++[some ⟨(l++T++l1).map LetterD.cs,19,91,true,true⟩])) (by kernel_rfl) (qC) (by kernel_rfl) ?_ (ac 400 ?_)
 rotate_left
 rotate_right
 simp only [aQ]
 refine⟨aa 400 ?_,aa 400 ?_⟩
 ·simp (disch:=omega) only [go_sem]
  refine⟨qC,(qI 0 22),ab (by rfl) (by rfl) ?_⟩
  try simp (disch:=omega) only [go_sem,seval]
  repeat' first|rfl|constructor|(intro _;rfl)|(simp only [List.map_append,List.append_assoc,List.length_append,Nat.add_assoc];done)
 ·simp (disch:=omega) only [go_sem]
  refine⟨qC,(qI 0 22),ab (by rfl) (by rfl) ?_⟩
  try simp (disch:=omega) only [go_sem,seval]
  repeat' first|rfl|constructor|(intro _;rfl)|(simp only [List.map_append,List.append_assoc,List.length_append,Nat.add_assoc];done)
 refine qX ?_
 refine aA (qI 0 8++qI 12 7++qI 21 1) (qC) _ (by simp only [go_sem];rfl) (by rfl) (by rfl) ?_
 simp (disch:=omega) only [go_sem,seval]
 try simp
 try omega
end
section
open Go.RowKit
def jo (x:LetterD):List Int:=[x.key,x.nonce,x.give,x.sgn]
def iF (w:WorldD) (n:Int):Bool:=decide (n < 1000) || lY w.nums n
theorem no (w:WorldD) (x:LetterD):dV w x=(eb x && !decide (aZ x.to=0) && fU w.known x.tag && (jo x).all (iF w)):=rfl
theorem iG (w:WorldD) (x:LetterD) (h0:w.known.keys.length≤1048576) (h1:w.known.tags.length≤1048576) (h2:w.nums.length≤1048576):ae Tryz.prog 157 [.ag (w.cs 0),.ag x.cs] (w.hp false) (.sc (.bo (dV w x))) (w.hp false):=by
 have hL:=bt x
 have hS:=dC x.to
 have hK:=m_ w.known x.tag h0 h1
 obtain⟨R,hR⟩:∃ R,R=dV w x:=⟨_,rfl⟩
 rw [←hR]
 rw [no] at hR
 refine qE Tryz.func157 Tryz.ntmps157 Tryz.results157 fun E hE=>?_
 refine qK (hL) [] ?_
 refine qB (fun c1=>?_) fun c1=>?_
 ·refine qK (hS) [] ?_
  refine qB (fun c2=>?_) fun c2=>?_
  ·refine qK (hK) (qI 16 2) ?_
   refine qB (fun c3=>?_) fun c3=>?_
   ·rw [c3] at hR
    simp only [Bool.and_false,Bool.false_and] at hR
    subst hR
    refine qX ?_
    exact qF (qI 0 21)
   rw [c1,c3,decide_eq_false c2] at hR
   simp only [Bool.not_false,Bool.true_and,Bool.and_true] at hR
   refine qX ?_
   refine an 21 hE (fun s (i:Nat)=>s.at (qU [0,2,3,2,6,26,35,13]) [(34,.sc (.int .i64 (i:Nat)))] (s.hp)) (fun (i:Nat)=>i≤4∧R=((jo x).drop i).all (iF w)) (fun (i:Nat)=>4 - i) 0 (qI 0 24) (qC) (⟨by omega,hR⟩) (af (by rfl) (by rfl) ?_) fun i hi N hN=>?_
   ·exact qY
   obtain⟨g1,g2⟩:=hi
   refine qR ?_
   split<;>rename_i b<;>(try simp only [decide_eq_true_eq,decide_eq_false_iff_not,Int.ofNat_lt] at b)
   rotate_left
   ·rw [List.drop_eq_nil_of_le (by simp only [jo,List.length_cons,List.length_nil];omega),List.all_nil] at g2
    subst g2
    refine qX ?_
    exact qF (qI 0 21)
   have hi4:i < (jo x).length:=by simp only [jo,List.length_cons,List.length_nil];omega
   rw [k_ hi4] at g2
   generalize hv:(jo x)[i]=v at g2
   have hg:([[.int .i64 x.key],[.int .i64 x.nonce],[.int .i64 x.give],[.int .i64 x.sgn]]:List (List Sc))[i]? =some (aC v):=by
    rw [←hv]
    rw [show ([[.int .i64 x.key],[.int .i64 x.nonce],[.int .i64 x.give],[.int .i64 x.sgn]]:List (List Sc))=(jo x).map aC from rfl]
    exact ao hi4
   simp only [aC] at hg
   have hH:=eH w.nums v h2
   try simp (disch:=omega) only [go_sem,seval,hg]
   refine qB (fun b1=>?_) fun b1=>?_
   ·refine qK (hH) (qI 18 1) ?_
    refine qB (fun b2=>?_) fun b2=>?_
    ·rw [show iF w v=false by rw [iF,b2,decide_eq_false (by omega)];rfl,Bool.false_and] at g2
     subst g2
     refine qX ?_
     exact qF (qI 0 21)
    rw [show iF w v=true by rw [iF,b2,Bool.or_true],Bool.true_and] at g2
    refine qX ?_
    exact qN hN (i+1) (qI 0 24) (by (try dsimp only);exact⟨by omega,g2⟩)
   rw [show iF w v=true by rw [iF,decide_eq_true (by omega)];rfl,Bool.true_and] at g2
   refine qX ?_
   exact qN hN (i+1) (qI 0 24) (by (try dsimp only);exact⟨by omega,g2⟩)
  rw [decide_eq_true c2] at hR
  simp only [Bool.not_true,Bool.and_false,Bool.false_and] at hR
  subst hR
  refine qX ?_
  exact qF (qI 0 21)
 rw [c1] at hR
 simp only [Bool.false_and] at hR
 subst hR
 refine qX ?_
 exact qF (qI 0 21)
theorem sh (w:WorldD) (x:LetterD) (h0:w.known.keys.length≤1048576) (h1:w.known.tags.length≤1048576) (h2:w.nums.length≤1048576):ae Tryz.prog 57 [.ag (w.cs 0),.ag x.cs] (w.hp false) (.sc (.bo (dV w x))) (w.hp false):=by
 have hL:=cL x
 have hS:=dD x.to
 have hK:=na w.known x.tag h0 h1
 obtain⟨R,hR⟩:∃ R,R=dV w x:=⟨_,rfl⟩
 rw [←hR]
 rw [no] at hR
 refine qE Tryz.func57 Tryz.ntmps57 Tryz.results57 fun E hE=>?_
 refine qK (hL) [] ?_
 refine qB (fun c1=>?_) fun c1=>?_
 ·refine qK (hS) [] ?_
  refine qB (fun c2=>?_) fun c2=>?_
  ·refine qK (hK) (qI 16 2) ?_
   refine qB (fun c3=>?_) fun c3=>?_
   ·rw [c3] at hR
    simp only [Bool.and_false,Bool.false_and] at hR
    subst hR
    refine qX ?_
    exact qF (qI 0 21)
   rw [c1,c3,decide_eq_false c2] at hR
   simp only [Bool.not_false,Bool.true_and,Bool.and_true] at hR
   refine qX ?_
   refine an 21 hE (fun s (i:Nat)=>s.at (qU [0,2,3,2,7,47]) [(6,.sc (.int .i64 (i:Nat)))] (s.hp)) (fun (i:Nat)=>i≤4∧R=((jo x).drop i).all (iF w)) (fun (i:Nat)=>4 - i) 0 (qI 0 24) (qC) (⟨by omega,hR⟩) (af (by rfl) (by rfl) ?_) fun i hi N hN=>?_
   ·exact qY
   obtain⟨g1,g2⟩:=hi
   refine qR ?_
   split<;>rename_i b<;>(try simp only [decide_eq_true_eq,decide_eq_false_iff_not,Int.ofNat_lt] at b)
   rotate_left
   ·rw [List.drop_eq_nil_of_le (by simp only [jo,List.length_cons,List.length_nil];omega),List.all_nil] at g2
    subst g2
    refine qX ?_
    exact qF (qI 0 21)
   have hi4:i < (jo x).length:=by simp only [jo,List.length_cons,List.length_nil];omega
   rw [k_ hi4] at g2
   generalize hv:(jo x)[i]=v at g2
   have hg:([[.int .i64 x.key],[.int .i64 x.nonce],[.int .i64 x.give],[.int .i64 x.sgn]]:List (List Sc))[i]? =some (aC v):=by
    rw [←hv]
    rw [show ([[.int .i64 x.key],[.int .i64 x.nonce],[.int .i64 x.give],[.int .i64 x.sgn]]:List (List Sc))=(jo x).map aC from rfl]
    exact ao hi4
   simp only [aC] at hg
   have hH:=fF w.nums v h2
   refine qX ?_
   refine qD [0,1,2,3,4,5,6,7,8,9,10,11,12,13,14] ?_
   try simp (disch:=omega) only [go_sem,seval,hg]
   refine qB (fun b1=>?_) fun b1=>?_
   ·try simp (disch:=omega) only [go_sem,seval,hg]
    refine az (hH) (qI 18 1) ?_
    refine qG ?_
    refine qB (fun b2=>?_) fun b2=>?_
    ·rw [show iF w v=false by rw [iF,b2,decide_eq_false (by omega)];rfl,Bool.false_and] at g2
     subst g2
     refine qX ?_
     exact qF (qI 0 21)
    rw [show iF w v=true by rw [iF,b2,Bool.or_true],Bool.true_and] at g2
    refine qX ?_
    exact qN hN (i+1) (qI 0 24) (by (try dsimp only);exact⟨by omega,g2⟩)
   rw [show iF w v=true by rw [iF,decide_eq_true (by omega)];rfl,Bool.true_and] at g2
   refine qG ?_
   exact qN hN (i+1) (qI 0 24) (by (try dsimp only);exact⟨by omega,g2⟩)
  rw [decide_eq_true c2] at hR
  simp only [Bool.not_true,Bool.and_false,Bool.false_and] at hR
  subst hR
  refine qX ?_
  exact qF (qI 0 21)
 rw [c1] at hR
 simp only [Bool.false_and] at hR
 subst hR
 refine qX ?_
 exact qF (qI 0 21)
def wroteB (w:WorldD) (side:Int) (t u:List UInt8):WorldD:=if side=1 then { w with wroteA:=w.wroteA++t,readA:=w.readA++u } else { w with wroteB:=w.wroteB++t,readB:=w.readB++u }
theorem ye (w:WorldD) (side:Int) (t:List UInt8):wroteB w side t []=e8 w side t:=by
 rw [wroteB,e8];split<;>simp
theorem yf (w:WorldD) (side:Int) (t:List UInt8):wroteB w side [] t=cF w side t:=by
 rw [wroteB,cF];split<;>simp
structure SmallS (w:WorldD):Prop where
 wa:w.wroteA.length≤1099511627776
 wb:w.wroteB.length≤1099511627776
 ra:w.readA.length≤1099511627776
 rb:w.readB.length≤1099511627776
theorem gE (w:WorldD) (side:Int) (t u:List UInt8) (h:SmallS w) (ht:t.length≤1048576) (hu:u.length≤1048576):ae Tryz.prog 115 [.ag (w.cs 0),.sc (.int .i64 side),.sc (.st t),.sc (.st u)] (w.hp false) (.ag ((wroteB w side t u).cs 0)) (w.hp false):=by
 have h1:=h.wa
 have h2:=h.wb
 have h3:=h.ra
 have h4:=h.rb
 obtain⟨R,hR⟩:∃ R,R=wroteB w side t u:=⟨_,rfl⟩
 rw [←hR]
 rw [wroteB] at hR
 refine qE Tryz.func115 Tryz.ntmps115 Tryz.results115 fun E hE=>?_
 refine qB (fun b=>?_) fun b=>?_
 ·rw [if_pos b] at hR
  subst hR
  refine qX ?_
  exact qF (qI 0 21)
 rw [if_neg b] at hR
 subst hR
 refine qX ?_
 exact qF (qI 0 21)
theorem oZ (l:List LetterD) (k:Nat) (hl:l.length≤1048576) (hk:k < l.length):ae Tryz.prog 128 [.sc (.sl 0 0 l.length),.sc (.int .i64 (k:Nat))] [some ⟨l.map LetterD.cs,19,91,false,true⟩] (.sc (.sl 1 0 (l.length - 1))) [some ⟨l.map LetterD.cs,19,91,false,true⟩,some ⟨(l.take k++l.drop (k+1)).map LetterD.cs,19,91,true,true⟩]:=by
 have hlt:(l.take k).length=k:=by simp;omega
 have hlt2:(List.take k (List.map LetterD.cs l)).length=k:=by simp;omega
 refine qE Tryz.func128 Tryz.ntmps128 Tryz.results128 fun E hE=>?_
 refine qX ?_
 refine ah (qI 0 1++qI 3 1) (qC) _ (by simp only [go_sem];rfl) (by rfl) (by rfl) ?_
 simp (disch:=omega) only [go_sem,seval]
 try rw [←List.map_take]
 exact⟨by omega,(jl hk).2⟩
end
section
open Go.RowKit
theorem uO (e:EndD) (hs:Small e) (ht:e.out.text.length≤1048576):ae Tryz.prog 148 [.ag (e.cs 0)] (e.hp false) (.tu [.ag ((dt e).1.cs 7),.sc (.sl 14 0 (dt e).2.length)])
  (e.hp false++((dt e).1.hp true++[some ⟨(dt e).2.map LetterD.cs,19,91,true,true⟩])):=by
 have hC:=(qH (aK e))
 have hK:=(qH (bf e))
 have hsb:=hs.subs
 have hso:=hs.own
 have hsh:=hs.halfs
 have hF:=x3 e.bucket
 have hY:=wi e.halfs (e.now+1) hs.halfs
 have hAn:=A_ e.out
 have hyl:=mj e.halfs (e.now+1)
 have hat:(fu e.out).text.length≤1048576:=by rw [fu];split<;>exact ht
 have hf:=E2 (e:=e)
 have hto:=zk (e:=e)
 have hti:=zl (e:=e)
 have htu:= @E3 e
 have hok:Fl e=(aj e && decide (e.now < 1000000000) && e.subs.all fun s=>decide (s.tries < 1000000000)):=rfl
 have hsm0:Small { e with now:=e.now+1,bucket:=c8 e.bucket,halfs:=bM e.halfs (e.now+1),out:=fu e.out }:=⟨hs.own,hs.far,hs.subs,by dsimp only;omega,hs.list,hs.done,hs.over⟩
 have hsm1:Small { e with now:=e.now+1,bucket:=c8 e.bucket,halfs:=bM e.halfs (e.now+1),out:=fu e.out,subs:=e.subs.map da }:=⟨hs.own,hs.far,by dsimp only;rw [List.length_map];exact hs.subs,by dsimp only;omega,hs.list,hs.done,hs.over⟩
 have hfl:(e.subs.flatMap (eP e)).length≤e.subs.length:=nm (lc e) _
 obtain⟨R,hR⟩:∃ R,R=dt e:=⟨_,rfl⟩
 rw [←hR] at hf hto hti
 simp only [←hR] at htu
 rw [←hR]
 clear hR
 refine ga Tryz.func148 Tryz.ntmps148 Tryz.results148 fun E hE=>?_
 refine qK (hC) (qI 0 7) ?_
 refine qK (hK) (qI 0 7) ?_
 refine qB (fun h1=>?_) fun h1=>?_
 ·have hnow:=ik h1
  by_cases h2:e.now < 1000000000
  ·refine qX ?_
   refine cE 7 hE (fun s (i:Nat)=>s.at (qU [0,1,3,1,6,1,10,12,25,8]) [(24,.sc (.int .i64 (i:Nat)))] (s.hp)) (fun (i:Nat)=>i≤e.subs.length∧(e.subs.drop i).all (fun s=>decide (s.tries < 1000000000))=e.subs.all (fun s=>decide (s.tries < 1000000000))) (fun (i:Nat)=>e.subs.length - i) 0 (qI 0 17) (qC) (⟨Nat.zero_le _,rfl⟩) (ab (by rfl) (by rfl) ?_) fun i hi N hN=>?_
   ·exact qY
   obtain⟨g1,g2⟩:=hi
   refine qR ?_
   refine qB (fun b=>?_) fun b=>?_
   ·rw [k_ b] at g2
    have hg:=ao (enc:=SubD.cs) b
    have hsub:=ld h1 b
    try simp (disch:=omega) only [go_sem,seval,hg]
    refine qB (fun b2=>?_) fun b2=>?_
    ·rw [decide_eq_false (by omega),Bool.false_and] at g2
     rw [hf (by rw [hok,←g2];simp)]
     refine qX ?_
     exact cc (qI 0 7++qI 9 7++qO 1)
    rw [decide_eq_true (by omega),Bool.true_and] at g2
    refine qX ?_
    exact UH hN (i+1) (qI 0 17) (by (try dsimp only);exact⟨by omega,g2⟩)
   rw [List.drop_eq_nil_of_le (by omega),List.all_nil] at g2
   have hall:=g2.symm
   have hall2:∀ (k:Nat) (hk:k < e.subs.length),e.subs[k].tries < 1000000000:=fun k hk=>by
    have:=List.all_eq_true.1 hall e.subs[k] (List.getElem_mem hk)
    simpa using this
   have htk:Fl e=true:=by rw [hok,h1,decide_eq_true h2,hall];rfl
   refine qX ?_
   refine qK (hF) [] ?_
   refine qK (hY) (qI 3 1) ?_
   refine qK (hAn) [] ?_
   by_cases h2s:e.state=2
   ·have hR:=hto htk h2s
    rw [oU] at hR
    obtain⟨LL,hLL⟩:∃ L,L=e.subs.flatMap (eP e):=⟨_,rfl⟩
    rw [←hLL] at hR hfl
    refine qX ?_
    refine cE 7 hE (fun s (y:Nat×List LetterD)=>s.at (qU [0,1,6,1,8,52,62,71]) [(61,.sc (.int .i64 (y.1:Nat))),(7,.sc (.sl 18 0 y.2.length))] ((s.hp.set 11 (some ⟨(cy da e.subs y.1).map SubD.cs,10,201,true,true⟩))++[some ⟨y.2.map LetterD.cs,19,91,true,true⟩])) (fun (y:Nat×List LetterD)=>y.1≤e.subs.length∧y.2.length≤y.1∧LL=y.2++(e.subs.drop y.1).flatMap (eP e)) (fun (y:Nat×List LetterD)=>e.subs.length - y.1) (0,[]) (qI 0 18++qO 1) (qC) (⟨Nat.zero_le _,Nat.zero_le _,hLL⟩) (ab (by rfl) (by rfl) ?_) fun y hy N2 hN2=>?_
    ·try simp (disch:=omega) only [go_sem,seval]
     try rw [jS]
    obtain⟨k,l⟩:=y
    obtain⟨f1,f2,f3⟩:=hy
    dsimp only at f1 f2 f3
    refine ac 400 ?_
    have hgl:(cy da e.subs k).length=e.subs.length:=kW
    refine qX ?_
    refine qB (fun b=>?_) fun b=>?_
    ·have hg:=kX (f:=da) b
     have hsub:=ld h1 b
     have htr:=hall2 k b
     rw [rZ b] at f3
     have hset:=kY (f:=da) b
     have hsame:=jR (f:=da) b
     obtain⟨s0,hs0⟩:∃ s,s=e.subs[k]:=⟨_,rfl⟩
     rw [←hs0] at hsub htr f3 hset hsame
     have hg':∀ p:k < (cy da e.subs k).length,(cy da e.subs k)[k]'p=s0:=fun p=>by rw [hg p,hs0]
     clear hg
     by_cases c1:s0.state=1∨s0.state=2
     ·by_cases c2:s0.state=2∧9≤s0.tries+1
      ·have tS:=se c2.1 c2.2
       rw [sf c2.1 c2.2,List.nil_append] at f3
       obtain⟨c3,c4⟩:=c2
       try simp (disch:=omega) only [go_sem,seval,hg',c3]
       refine⟨qC,hN2 _ (k+1,l) (qI 0 19) (by (try dsimp only);exact⟨by omega,by omega,f3⟩) (by (try dsimp only);omega) (ab (by rfl) (by rfl) ?_)⟩
       refine qX ?_
       rw [←hset,tS,List.map_set]
       try simp [SubD.cs,c3]
      have tS:=yd c1 c2
      by_cases c5:(s0.tries+1).tmod 3=0
      ·rcases c1 with c1|c1
       ·rw [uL c1 c5] at f3
        have hL:ae Tryz.prog 234 [.ag (EndD.cs e 0),.ag (SubD.cs { s0 with tries:=s0.tries+1,state:=1 })] (EndD.hp e false) (.ag (fv e s0).cs) (EndD.hp e false):=j4 _ _ (show cr e.side 1 2=true from jO h1)
        try simp (disch:=omega) only [go_sem,seval,hg',c1,c5]
        refine qD [0,1,2,3,4,5,6,7,8] ?_
        refine az (hL) (qI 0 7) ?_
        refine qG ?_
        refine⟨qC,hN2 _ (k+1,l++[fv e s0]) (qI 0 18++qI 20 1) (by (try dsimp only);exact⟨by omega,by simp;omega,by simpa using f3⟩) (by (try dsimp only);omega) (ab (by rfl) (by rfl) ?_)⟩
        refine qX ?_
        rw [←hset,tS,List.map_set]
        try simp [SubD.cs,c1,LetterD.cs]
       rw [oY c1 (by omega) c5] at f3
       have hL:ae Tryz.prog 235 [.ag (EndD.cs e 0),.ag (SubD.cs { s0 with tries:=s0.tries+1,state:=2 })] (EndD.hp e false) (.ag (cx e s0).cs) (EndD.hp e false):=j0 _ _
       try simp (disch:=omega) only [go_sem,seval,hg',c1,c5]
       refine qD [0,1,2,3,4,5,6,7,8] ?_
       refine az (hL) (qI 0 7) ?_
       refine qG ?_
       refine⟨qC,hN2 _ (k+1,l++[cx e s0]) (qI 0 18++qI 20 1) (by (try dsimp only);exact⟨by omega,by simp;omega,by simpa using f3⟩) (by (try dsimp only);omega) (ab (by rfl) (by rfl) ?_)⟩
       refine qX ?_
       rw [←hset,tS,List.map_set]
       try simp [SubD.cs,c1,LetterD.cs]
      rw [sg c1 c2 c5,List.nil_append] at f3
      have c6:0 < (s0.tries+1).tmod 3:=by have:=Int.tmod_nonneg 3 (show 0≤s0.tries+1 by omega);omega
      rcases c1 with c1|c1
      ·try simp (disch:=omega) only [go_sem,seval,hg',c1]
       refine⟨qC,hN2 _ (k+1,l) (qI 0 19) (by (try dsimp only);exact⟨by omega,by omega,f3⟩) (by (try dsimp only);omega) (ab (by rfl) (by rfl) ?_)⟩
       refine qX ?_
       rw [←hset,tS,List.map_set]
       try simp [SubD.cs,c1]
      try simp (disch:=omega) only [go_sem,seval,hg',c1]
      refine⟨qC,hN2 _ (k+1,l) (qI 0 19) (by (try dsimp only);exact⟨by omega,by omega,f3⟩) (by (try dsimp only);omega) (ab (by rfl) (by rfl) ?_)⟩
      refine qX ?_
      rw [←hset,tS,List.map_set]
      try simp [SubD.cs,c1]
     rw [sa c1,List.nil_append] at f3
     try simp (disch:=omega) only [go_sem,seval,hg']
     refine⟨qC,hN2 _ (k+1,l) (qI 0 19) (by (try dsimp only);exact⟨by omega,by omega,f3⟩) (by (try dsimp only);omega) (ab (by rfl) (by rfl) ?_)⟩
     refine qX ?_
     rw [hsame (r_ c1)]
    have hkl:k=e.subs.length:=by omega
    subst hkl
    rw [List.drop_eq_nil_of_le (Nat.le_refl _),List.flatMap_nil,List.append_nil] at f3
    subst f3
    rw [kZ]
    have hTE:=nn { e with now:=e.now+1,bucket:=c8 e.bucket,halfs:=bM e.halfs (e.now+1),out:=fu e.out,subs:=e.subs.map da } LL hsm1 hat (by omega)
    rw [←hR] at hTE
    have hml:(e.subs.map da).length=e.subs.length:=List.length_map ..
    refine qX ?_
    refine qK (hTE) (qI 9 3++qI 17 1++qI 13 3++qI 18 1) ?_
    exact cc (qI 0 7++qI 19 8)
   have hR:=hti htk h2s
   rw [oU] at hR
   have hTE:=nn { e with now:=e.now+1,bucket:=c8 e.bucket,halfs:=bM e.halfs (e.now+1),out:=fu e.out } [] hsm0 hat (by simp)
   rw [←hR] at hTE
   refine qX ?_
   refine qK (hTE) (qI 9 3++qI 17 1++qI 13 3++qO 1) ?_
   exact cc (qI 0 7++qI 18 8)
  rw [hf (by rw [hok];simp [h2])]
  refine qX ?_
  exact cc (qI 0 7++qI 9 7++qO 1)
 rw [hf (by rw [hok];simp [h1])]
 refine qX ?_
 exact cc (qI 0 7++qI 9 7++qO 1)
end
section
open Go.RowKit
theorem uP (e:EndD) (hs:Small e) (ht:e.out.text.length≤1048576):ae Tryz.prog 118 [.ag (e.cs 0)] (e.hp false) (.tu [.ag ((dt e).1.cs 7),.sc (.sl 14 0 (dt e).2.length)])
  (e.hp false++((dt e).1.hp true++[some ⟨(dt e).2.map LetterD.cs,19,91,true,true⟩])):=by
 have hC:=(qH (aD e))
 have hK:=(qH (be e))
 have hsb:=hs.subs
 have hso:=hs.own
 have hsh:=hs.halfs
 have hF:=x4 e.bucket
 have hY:=wj e.halfs (e.now+1) hs.halfs
 have hAn:=Ba e.out
 have hyl:=mj e.halfs (e.now+1)
 have hat:(fu e.out).text.length≤1048576:=by rw [fu];split<;>exact ht
 have hf:=E2 (e:=e)
 have hto:=zk (e:=e)
 have hti:=zl (e:=e)
 have htu:= @E3 e
 have hok:Fl e=(aj e && decide (e.now < 1000000000) && e.subs.all fun s=>decide (s.tries < 1000000000)):=rfl
 have hsm0:Small { e with now:=e.now+1,bucket:=c8 e.bucket,halfs:=bM e.halfs (e.now+1),out:=fu e.out }:=⟨hs.own,hs.far,hs.subs,by dsimp only;omega,hs.list,hs.done,hs.over⟩
 have hsm1:Small { e with now:=e.now+1,bucket:=c8 e.bucket,halfs:=bM e.halfs (e.now+1),out:=fu e.out,subs:=e.subs.map da }:=⟨hs.own,hs.far,by dsimp only;rw [List.length_map];exact hs.subs,by dsimp only;omega,hs.list,hs.done,hs.over⟩
 have hfl:(e.subs.flatMap (eP e)).length≤e.subs.length:=nm (lc e) _
 obtain⟨R,hR⟩:∃ R,R=dt e:=⟨_,rfl⟩
 rw [←hR] at hf hto hti
 simp only [←hR] at htu
 rw [←hR]
 clear hR
 refine ga Tryz.func118 Tryz.ntmps118 Tryz.results118 fun E hE=>?_
 refine qK (hC) (qI 0 7) ?_
 refine qK (hK) (qI 0 7) ?_
 refine qB (fun h1=>?_) fun h1=>?_
 ·have hnow:=ik h1
  by_cases h2:e.now < 1000000000
  ·refine qX ?_
   refine cE 7 hE (fun s (i:Nat)=>s.at (qU [0,1,3,1,11,29]) [(6,.sc (.int .i64 (i:Nat)))] (s.hp)) (fun (i:Nat)=>i≤e.subs.length∧(e.subs.drop i).all (fun s=>decide (s.tries < 1000000000))=e.subs.all (fun s=>decide (s.tries < 1000000000))) (fun (i:Nat)=>e.subs.length - i) 0 (qI 0 18) (qC) (⟨Nat.zero_le _,rfl⟩) (ab (by rfl) (by rfl) ?_) fun i hi N hN=>?_
   ·exact qY
   obtain⟨g1,g2⟩:=hi
   refine qR ?_
   refine qB (fun b=>?_) fun b=>?_
   ·rw [k_ b] at g2
    have hg:=ao (enc:=SubD.cs) b
    have hsub:=ld h1 b
    try simp (disch:=omega) only [go_sem,seval,hg]
    refine qB (fun b2=>?_) fun b2=>?_
    ·rw [decide_eq_false (by omega),Bool.false_and] at g2
     rw [hf (by rw [hok,←g2];simp)]
     refine qX ?_
     exact cc (qI 0 7++qI 9 7++qI 17 1)
    rw [decide_eq_true (by omega),Bool.true_and] at g2
    refine qX ?_
    exact UH hN (i+1) (qI 0 18) (by (try dsimp only);exact⟨by omega,g2⟩)
   rw [List.drop_eq_nil_of_le (by omega),List.all_nil] at g2
   have hall:=g2.symm
   have hall2:∀ (k:Nat) (hk:k < e.subs.length),e.subs[k].tries < 1000000000:=fun k hk=>by
    have:=List.all_eq_true.1 hall e.subs[k] (List.getElem_mem hk)
    simpa using this
   have htk:Fl e=true:=by rw [hok,h1,decide_eq_true h2,hall];rfl
   refine qX ?_
   refine qK (hF) [] ?_
   refine qK (hY) (qI 3 1) ?_
   refine qK (hAn) [] ?_
   obtain⟨tk,htk1⟩:∃ f:SubD→SubD,f=fun s=>if e.state=2 then da s else s:=⟨_,rfl⟩
   obtain⟨tl,htl1⟩:∃ f:SubD→List LetterD,f=fun s=>if e.state=2 then eP e s else []:=⟨_,rfl⟩
   have hR:=htu htk htk1 htl1
   have hsmu:Small { e with now:=e.now+1,bucket:=c8 e.bucket,halfs:=bM e.halfs (e.now+1),out:=fu e.out,subs:=e.subs.map tk }:=⟨hs.own,hs.far,by dsimp only;rw [List.length_map];exact hs.subs,by dsimp only;omega,hs.list,hs.done,hs.over⟩
   have hflu:(e.subs.flatMap tl).length≤e.subs.length:=nm (fun s=>by rw [htl1];dsimp only;split;exact lc e s;simp) _
   obtain⟨LL,hLL⟩:∃ L,L=e.subs.flatMap tl:=⟨_,rfl⟩
   rw [←hLL] at hR hflu
   clear htu hto hti hf
   refine qX ?_
   refine cE 7 hE (fun s (y:Nat×List LetterD)=>s.at (qU [0,1,6,1,8,1,11,120]) [(7,.sc (.int .i64 (y.1:Nat))),(5,.sc (.sl 17 0 y.2.length))] ((s.hp.set 11 (some ⟨(cy tk e.subs y.1).map SubD.cs,10,201,true,true⟩)).set 17 (some ⟨y.2.map LetterD.cs,19,91,true,true⟩))) (fun (y:Nat×List LetterD)=>y.1≤e.subs.length∧y.2.length≤y.1∧LL=y.2++(e.subs.drop y.1).flatMap tl) (fun (y:Nat×List LetterD)=>e.subs.length - y.1) (0,[]) (qI 0 19) (qC) (⟨Nat.zero_le _,Nat.zero_le _,hLL⟩) (ab (by rfl) (by rfl) ?_) fun y hy N2 hN2=>?_
   ·try simp (disch:=omega) only [go_sem,seval]
    try rw [jS]
   obtain⟨k,l⟩:=y
   obtain⟨f1,f2,f3⟩:=hy
   dsimp only at f1 f2 f3
   refine ac 400 ?_
   have hgl:(cy tk e.subs k).length=e.subs.length:=kW
   refine qX ?_
   by_cases hopen:k < e.subs.length∧e.state=2
   ·obtain⟨b,h2s⟩:=hopen
    have etk:tk=da:=by rw [htk1];funext s;exact if_pos h2s
    have etl:tl=eP e:=by rw [htl1];funext s;exact if_pos h2s
    clear htk1 htl1
    subst etk etl
    refine qX ?_
    have hg:=kX (f:=da) b
    have hsub:=ld h1 b
    have htr:=hall2 k b
    rw [rZ b] at f3
    have hset:=kY (f:=da) b
    have hsame:=jR (f:=da) b
    obtain⟨s0,hs0⟩:∃ s,s=e.subs[k]:=⟨_,rfl⟩
    rw [←hs0] at hsub htr f3 hset hsame
    have hg':∀ p:k < (cy da e.subs k).length,(cy da e.subs k)[k]'p=s0:=fun p=>by rw [hg p,hs0]
    clear hg
    by_cases c1:s0.state=1∨s0.state=2
    ·by_cases c2:s0.state=2∧9≤s0.tries+1
     ·have tS:=se c2.1 c2.2
      rw [sf c2.1 c2.2,List.nil_append] at f3
      obtain⟨c3,c4⟩:=c2
      try simp (disch:=omega) only [go_sem,seval,hg',c3]
      refine⟨qC,hN2 _ (k+1,l) (qI 0 19) (by (try dsimp only);exact⟨by omega,by omega,f3⟩) (by (try dsimp only);omega) (ab (by rfl) (by rfl) ?_)⟩
      refine qX ?_
      rw [←hset,tS,List.map_set]
      try simp [SubD.cs,c3]
     have tS:=yd c1 c2
     by_cases c5:(s0.tries+1).tmod 3=0
     ·rcases c1 with c1|c1
      ·rw [uL c1 c5] at f3
       have hL:ae Tryz.prog 206 [.ag (EndD.cs { e with now:=e.now+1,bucket:=c8 e.bucket,halfs:=bM e.halfs (e.now+1),out:=fu e.out,subs:=(cy da e.subs k).set k { s0 with tries:=s0.tries+1,state:=1 } } 0),.ag (SubD.cs { s0 with state:=1 })] (EndD.hp { e with now:=e.now+1,bucket:=c8 e.bucket,halfs:=bM e.halfs (e.now+1),out:=fu e.out,subs:=(cy da e.subs k).set k { s0 with tries:=s0.tries+1,state:=1 } } false) (.ag (fv e s0).cs) (EndD.hp { e with now:=e.now+1,bucket:=c8 e.bucket,halfs:=bM e.halfs (e.now+1),out:=fu e.out,subs:=(cy da e.subs k).set k { s0 with tries:=s0.tries+1,state:=1 } } false):=ng _ _ (show cr e.side 1 2=true from jO h1)
       try simp (disch:=omega) only [go_sem,seval,hg',c1,c5]
       refine qK (hL) (qI 9 3++qI 18 1++qI 13 3) ?_
       refine⟨qC,hN2 _ (k+1,l++[fv e s0]) (qI 0 17++qI 21 1++qI 18 1) (by (try dsimp only);exact⟨by omega,by simp;omega,by simpa using f3⟩) (by (try dsimp only);omega) (ab (by rfl) (by rfl) ?_)⟩
       refine qX ?_
       rw [←hset,tS,List.map_set]
       try simp [SubD.cs,c1,LetterD.cs]
      rw [oY c1 (by omega) c5] at f3
      have hL:ae Tryz.prog 207 [.ag (EndD.cs { e with now:=e.now+1,bucket:=c8 e.bucket,halfs:=bM e.halfs (e.now+1),out:=fu e.out,subs:=(cy da e.subs k).set k { s0 with tries:=s0.tries+1,state:=2 } } 0),.ag (SubD.cs { s0 with state:=2 })] (EndD.hp { e with now:=e.now+1,bucket:=c8 e.bucket,halfs:=bM e.halfs (e.now+1),out:=fu e.out,subs:=(cy da e.subs k).set k { s0 with tries:=s0.tries+1,state:=2 } } false) (.ag (cx e s0).cs) (EndD.hp { e with now:=e.now+1,bucket:=c8 e.bucket,halfs:=bM e.halfs (e.now+1),out:=fu e.out,subs:=(cy da e.subs k).set k { s0 with tries:=s0.tries+1,state:=2 } } false):=kx _ _
      try simp (disch:=omega) only [go_sem,seval,hg',c1,c5]
      refine qK (hL) (qI 9 3++qI 18 1++qI 13 3) ?_
      refine⟨qC,hN2 _ (k+1,l++[cx e s0]) (qI 0 17++qI 21 1++qI 18 1) (by (try dsimp only);exact⟨by omega,by simp;omega,by simpa using f3⟩) (by (try dsimp only);omega) (ab (by rfl) (by rfl) ?_)⟩
      refine qX ?_
      rw [←hset,tS,List.map_set]
      try simp [SubD.cs,c1,LetterD.cs]
     rw [sg c1 c2 c5,List.nil_append] at f3
     have c6:0 < (s0.tries+1).tmod 3:=by have:=Int.tmod_nonneg 3 (show 0≤s0.tries+1 by omega);omega
     rcases c1 with c1|c1
     ·try simp (disch:=omega) only [go_sem,seval,hg',c1]
      refine⟨qC,hN2 _ (k+1,l) (qI 0 19) (by (try dsimp only);exact⟨by omega,by omega,f3⟩) (by (try dsimp only);omega) (ab (by rfl) (by rfl) ?_)⟩
      refine qX ?_
      rw [←hset,tS,List.map_set]
      try simp [SubD.cs,c1]
     try simp (disch:=omega) only [go_sem,seval,hg',c1]
     refine⟨qC,hN2 _ (k+1,l) (qI 0 19) (by (try dsimp only);exact⟨by omega,by omega,f3⟩) (by (try dsimp only);omega) (ab (by rfl) (by rfl) ?_)⟩
     refine qX ?_
     rw [←hset,tS,List.map_set]
     try simp [SubD.cs,c1]
    rw [sa c1,List.nil_append] at f3
    try simp (disch:=omega) only [go_sem,seval,hg']
    refine⟨qC,hN2 _ (k+1,l) (qI 0 19) (by (try dsimp only);exact⟨by omega,by omega,f3⟩) (by (try dsimp only);omega) (ab (by rfl) (by rfl) ?_)⟩
    refine qX ?_
    rw [hsame (r_ c1)]
   have hst:cy tk e.subs k=e.subs.map tk:=by
    by_cases h2s:e.state=2
    ·rw [show k=e.subs.length by omega,kZ]
    have hid:∀ s,tk s=s:=fun s=>by rw [htk1];exact if_neg h2s
    have hf2:tk=fun s=>s:=funext hid
    rw [E4 hid,hf2];simp
   have hlf:LL=l:=by
    by_cases h2s:e.state=2
    ·rw [f3,List.drop_eq_nil_of_le (by omega),List.flatMap_nil,List.append_nil]
    have hf2:tl=fun s=>[]:=by rw [htl1];funext s;exact if_neg h2s
    rw [f3,hf2];simp
   rw [hst]
   subst hlf
   by_cases b:k < e.subs.length
   all_goals
    have hT:=rX { e with now:=e.now+1,bucket:=c8 e.bucket,halfs:=bM e.halfs (e.now+1),out:=fu e.out,subs:=e.subs.map tk } hsmu
    have hTl:=jT { e with now:=e.now+1,bucket:=c8 e.bucket,halfs:=bM e.halfs (e.now+1),out:=fu e.out,subs:=e.subs.map tk }
    have hml:(e.subs.map tk).length=e.subs.length:=List.length_map ..
    rw [ea] at hR
    obtain⟨EX,hEX⟩:∃ E,E={ e with now:=e.now+1,bucket:=c8 e.bucket,halfs:=bM e.halfs (e.now+1),out:=fu e.out,subs:=e.subs.map tk }:=⟨_,rfl⟩
    rw [←hEX] at hR
    have hsx:Small EX:=by rw [hEX];exact hsmu
    have hatx:EX.out.text.length≤1048576:=by rw [hEX];exact hat
    obtain⟨TT,hTT⟩:∃ T,T=cI EX:=⟨_,rfl⟩
    rw [←hTT] at hR
    rw [←hEX,←hTT] at hTl
    rw [show cI { e with now:=e.now+1,bucket:=c8 e.bucket,halfs:=bM e.halfs (e.now+1),out:=fu e.out,subs:=e.subs.map tk }=TT by rw [hTT,hEX]] at hT
    have hxo:EX.own.length≤1048576:=hsx.own
    refine qX ?_
    refine qK (hT) (qI 9 3++qI 18 1++qI 13 3) ?_
    refine cE 7 hE (fun s (y:Nat×EndD×List LetterD)=>s.at (qU [0,2,6,3,10,138]) [(9,.sc (.int .i64 (y.1:Nat))),(5,.sc (.sl 17 0 y.2.2.length))] ((s.hp.take 9)++(y.2.1.hp true++[some ⟨[y.2.1.cs 9],25,45,true,false⟩,some ⟨y.2.2.map LetterD.cs,19,91,true,true⟩]))) (fun (y:Nat×EndD×List LetterD)=>y.1≤3∧Small y.2.1∧y.2.1.out.text.length≤1048576∧y.2.2.length≤2097152+y.1∧R=((dU (3 - y.1) y.2.1).1,y.2.2++(dU (3 - y.1) y.2.1).2)) (fun (y:Nat×EndD×List LetterD)=>3 - y.1) (0,EX,LL++TT) (qI 0 12++qI 18 1++qI 13 4++qI 20 1) (qC) (⟨by omega,hsx,hatx,by simp only [List.length_append];omega,hR⟩) (ab (by rfl) (by rfl) ?_) fun y hy N2 hN2=>?_
    ·rw [hEX]
     try simp (disch:=omega) only [go_sem,seval]
     try simp
    obtain⟨n,e1,l⟩:=y
    obtain⟨h1',h2',h3',h4',h5'⟩:=hy
    dsimp only at h1' h2' h3' h4' h5'
    have hP:=uG e1 h2' h3'
    have hp1:=nf e1
    have hps:=jN h2'
    have hpt:(eX e1).1.out.text.length≤1048576:=by rw [n5];exact h3'
    refine qR ?_
    refine qB (fun b3=>?_) fun b3=>?_
    ·rw [mg (by omega)] at h5'
     obtain⟨pr,hpr⟩:∃ p,p=eX e1:=⟨_,rfl⟩
     rw [←hpr] at hP hp1 hps hpt h5'
     obtain⟨e2,l2⟩:=pr
     dsimp only at hP hp1 hps hpt h5'
     rw [←List.append_assoc] at h5'
     refine qX ?_
     refine qK (hP) (qI 9 7) ?_
     refine⟨qC,hN2 _ (n+1,e2,l++l2) (qI 0 9++qI 19 7++qI 16 1++qI 27 1) (by (try dsimp only);exact⟨by omega,hps,hpt,by simp only [List.length_append];omega,h5'⟩) (by (try dsimp only);omega) (ab (by rfl) (by rfl) ?_)⟩
     try simp (disch:=omega) only [go_sem,seval]
     try simp
    have e3:n=3:=by omega
    subst e3
    simp only [Nat.sub_self,dU,List.append_nil] at h5'
    subst h5'
    refine qX ?_
    exact cc (qI 0 7++qI 9 7++qI 17 1)
  rw [hf (by rw [hok];simp [h2])]
  refine qX ?_
  exact cc (qI 0 7++qI 9 7++qI 17 1)
 rw [hf (by rw [hok];simp [h1])]
 refine qX ?_
 exact cc (qI 0 7++qI 9 7++qI 17 1)
end
section
open Go.RowKit
def zu:Hp→Bool
 |[]=>true
 |some ob::h=> !ob.own && zu h
 |none::h=>zu h
theorem sD:∀ {h:Hp} {o:Nat} {ob:AObj},zu h=true→h[o]? =some (some ob)→ob.own=false
 |some x::h,0,ob,hr,ho=>by
  simp only [zu,Bool.and_eq_true,Bool.not_eq_true'] at hr
  simp at ho
  subst ho
  exact hr.1
 |some x::h,o+1,ob,hr,ho=>by
  simp only [zu,Bool.and_eq_true] at hr
  exact sD hr.2 (by simpa using ho)
 |none::h,0,ob,hr,ho=>by simp at ho
 |none::h,o+1,ob,hr,ho=>sD (h:=h) hr (by simpa using ho)
 |[],o,ob,_,ho=>by simp at ho
theorem Fg {β:Be} {w:World}:∀ {l:Be} {h:Hp},IS β w l h→zu h=true
 |[],[],_=>rfl
 |p::l,some ob::h,hr=>by
  have:=Fg hr.2
  simp [zu,hr.1.1,this]
 |[],_::_,h=>h.elim
 |_::_,[],h=>h.elim
 |_::_,none::_,h=>h.elim
theorem Fh {P:Program} {f:FuncId} {args:List AV} {b:Bool} {h h':Hp} (ct:ae P f args h (.sc (.bo b)) h') {β:Be} {w:World} (hr:IS β w β h) {vs:List Value} (hvs:L2 (gf β) args vs):
  Calls P f vs.toArray w fun e w'=>e=.returned (.bool b)∧Below w.heap.size w w':=
 (ct.2 β w vs (B5 hr) hvs).mono fun e w' ⟨β',v,he,hv,hh,hst⟩=>by
  have hv':v=.bool b:=hv
  subst hv'
  exact⟨he,⟨hst.os,hst.tape,hst.output,hst.size,fun k hk=>hst.block k hk fun⟨o,ob,p,ho,hown,hp,_⟩=>by
   rw [sD (Fg hr) ho] at hown
   cases hown⟩⟩
end
end Go.Proofs.YtbgakfbnkkfbkaaGreat
