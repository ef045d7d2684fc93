/-
  Texts merged for this claim by shake.py: what its proof needs.
-/
import Derived.Tactics
import Derived.Below
import Derived.Laws.AppendOwn
import Derived.Laws.OwnMore
import Derived.Laws.Slices
import Derived.Laws.Small
import Derived.Laws.Strings
import Derived.KernelRfl
import Derived.Laws.MakeOwn
import Derived.Laws.BytesString
import Derived.Laws.BytesArg
import Derived.Laws.Build
import Derived.Laws.Concat
import Derived.Laws.StructEq
import Derived.Lib.ConvBytes
import Derived.Orders
import Derived.WalkKit
import Derived.ProofKit
import Derived.ShutString
import Derived.OpenShut
import Derived.ChangeOld
import Derived.Carry
import Derived.Test.YtbgakfbnkkfbkaaGreatChecked
import Derived.Laws.BitsLemmas
import Derived.JoinedOf
import Derived.Test.YtbgakfbnkkfbkaaGreatZFnBaseA
import Derived.Test.YtbgakfbnkkfbkaaGreatZFnBaseB
import Derived.Test.YtbgakfbnkkfbkaaGreatZFnBaseC
import Derived.Test.YtbgakfbnkkfbkaaGreatZFnBaseD
set_option maxHeartbeats 16000000
set_option maxRecDepth 100000
set_option linter.unusedVariables false
set_option linter.unusedSimpArgs false
namespace Go.Proofs.YtbgakfbnkkfbkaaGreat
section
open Go.RowKit
theorem jk {α:Type} {f:α→List Sc} {l:List α} {k:Nat} {a:α} {c:List Sc} (hc:f a=c) (h:k≤l.length):
  k+1+(l.length - k)=(l.take k).length+1+(l.drop k).length∧(l.take k).map f++[c]++((l.map f).drop k).take (l.length - k)=(l.take k++[a]++l.drop k).map f:=by
 refine⟨by simp;omega,?_⟩
 have e:((l.map f).drop k).take (l.length - k)=(l.map f).drop k:=List.take_of_length_le (by simp)
 rw [←hc,e]
 simp [List.map_take,List.map_drop]
theorem Nm {α:Type} {f:α→List Sc} {l:List α} {a:α} {c:List Sc} (hc:f a=c):
  l.length+1+(l.length - l.length)=l.length+1∧l.map f++[c]++((l.map f).drop l.length).take (l.length - l.length)=(l++[a]).map f:=by
 rw [←hc]
 simp
theorem xH (l:List Int) (n:Int) (hl:l.length≤1048570):ae Tryz.prog 245 [.sc (.sl 0 0 l.length),.sc (.int .i64 n)] [some ⟨l.map aC,1,3,false,true⟩]
  (.sc (.sl 1 0 (iL l n).length)) [some ⟨l.map aC,1,3,false,true⟩,some ⟨(iL l n).map aC,1,3,true,true⟩]:=by
 have ht:=fun k=> @EM l n k
 have hf:=fun k=> @EN l n k
 have he:= @EO l n
 generalize iL l n=R at*
 refine qE Tryz.func245 Tryz.ntmps245 Tryz.results245 fun E hE=>?_
 refine an 1 hE (fun s (k:Nat)=>s.at (qU [6,14]) [(5,.sc (.int .i64 (k:Nat)))] (s.hp)) (fun (k:Nat)=>k≤l.length∧k+((l.drop k).takeWhile (fun a=>decide (a < n))).length=qP l n) (fun (k:Nat)=>l.length - k) 0 (qI 0 1) (qC) (⟨Nat.zero_le _,by simp [qP]⟩) (af (by rfl) (by rfl) ?_) fun k hk N hN=>?_
 ·exact qY
 obtain⟨hk1,hk2⟩:=hk
 refine qR ?_
 refine qB (fun h=>?_) fun h=>?_
 ·rw [pv h] at hk2
  refine qX ?_
  refine qB (fun h2=>?_) fun h2=>?_
  ·rw [if_pos (by simp [h2])] at hk2
   exact qN hN (k+1) (qI 0 1) (by (try dsimp only);exact⟨by omega,by omega⟩)
  rw [if_neg (by simp;omega)] at hk2
  refine qX ?_
  refine qB (fun h3=>?_) fun h3=>?_
  ·rw [ht k (by omega) h h3]
   refine qK (cv l (by omega)) (qI 0 1) ?_
   exact qF (qI 0 2)
  rw [hf k (by omega) h h3]
  have hlt:(l.take k).length=k:=by simp;omega
  have hC:=cv (l.take k) (by omega)
  rw [hlt] at hC
  refine aT [(3,5),(3,9),(5,9),(6,9)] [[0,1,2,4,7,8,3,5,6,9,10,11],[0,1,2,4,7,8,3,5,9,6,10,11],[0,1,2,4,7,8,3,9,5,6,10,11],[0,1,2,4,7,8,9,3,5,6,10,11],[0,1,2,4,7,8,5,3,6,9,10,11],[0,1,2,4,7,8,5,3,9,6,10,11],[0,1,2,4,7,8,5,9,3,6,10,11],[0,1,2,4,7,8,9,5,3,6,10,11]] (by kernel_rfl) (qC) (by kernel_rfl) ?_
  simp only [aQ]
  refine⟨aa 400 ?_,aa 400 ?_,aa 400 ?_,aa 400 ?_,aa 400 ?_,aa 400 ?_,aa 400 ?_,aa 400 ?_⟩
  all_goals simp (disch:=omega) only [go_sem,seval]
  all_goals
   refine az (hC) [some (0,some 0)] ?_
   refine qG ?_
   refine qJ (qI 0 1++qI 4 1) ?_
   exact jk rfl hk1
 rw [vD (by omega)] at hk2
 obtain rfl:k=l.length:=by omega
 rw [he (by omega)]
 refine qX ?_
 refine aT [(3,5),(3,9),(5,9),(6,9)] [[0,1,2,4,7,8,3,5,6,9,10,11],[0,1,2,4,7,8,3,5,9,6,10,11],[0,1,2,4,7,8,3,9,5,6,10,11],[0,1,2,4,7,8,9,3,5,6,10,11],[0,1,2,4,7,8,5,3,6,9,10,11],[0,1,2,4,7,8,5,3,9,6,10,11],[0,1,2,4,7,8,5,9,3,6,10,11],[0,1,2,4,7,8,9,5,3,6,10,11]] (by kernel_rfl) (qC) (by kernel_rfl) ?_
 simp only [aQ]
 refine⟨aa 400 ?_,aa 400 ?_,aa 400 ?_,aa 400 ?_,aa 400 ?_,aa 400 ?_,aa 400 ?_,aa 400 ?_⟩
 all_goals simp (disch:=omega) only [go_sem,seval]
 all_goals
  refine az (cv l (by omega)) (qI 0 1) ?_
  refine qG ?_
  refine qJ (qI 0 1++qI 4 1) ?_
  exact Nm rfl
theorem oN (l:List Int) (n:Int) (hl:l.length≤1048570):ae Tryz.prog 214 [.sc (.sl 0 0 l.length),.sc (.int .i64 n)] [some ⟨l.map aC,1,3,false,true⟩]
  (.sc (.sl 1 0 (iL l n).length)) [some ⟨l.map aC,1,3,false,true⟩,some ⟨(iL l n).map aC,1,3,true,true⟩]:=by
 have ht:=fun k=> @EM l n k
 have hf:=fun k=> @EN l n k
 have he:= @EO l n
 have hlen:=ky l n
 generalize iL l n=R at*
 refine qE Tryz.func214 Tryz.ntmps214 Tryz.results214 fun E hE=>?_
 refine an 1 hE (fun s (x:Nat×Bool×List Int)=>s.at (qU [8,34]) [(7,.sc (.int .i64 (x.1:Nat))),(6,.sc (.bo x.2.1)),(5,.sc (.sl 1 0 x.2.2.length))] ([some ⟨l.map aC,1,3,false,true⟩,some ⟨x.2.2.map aC,1,3,true,true⟩])) (fun (x:Nat×Bool×List Int)=>x.1≤l.length∧x.2.2.length≤x.1+1∧(x.2.1=true→x.2.2++l.drop x.1=R)∧(x.2.1=false→x.2.2=l.take x.1∧x.1+((l.drop x.1).takeWhile (fun a=>decide (a < n))).length=qP l n)) (fun (x:Nat×Bool×List Int)=>l.length - x.1) (0,false,[]) (qI 0 2) (qC) (⟨Nat.zero_le _,by simp,by simp,fun _=>⟨rfl,by simp [qP]⟩⟩) (af (by rfl) (by rfl) ?_) fun x hx N hN=>?_
 ·exact qY
 obtain⟨k,b,acc⟩:=x
 obtain⟨hk1,hk2,hk3,hk4⟩:=hx
 dsimp only at hk1 hk2 hk3 hk4
 refine qR ?_
 refine qB (fun h=>?_) fun h=>?_
 ·cases b with
  |true=>
   have hR:=hk3 rfl
   rw [List.drop_eq_getElem_cons h] at hR
   refine qX ?_
   refine⟨qC,hN _ (k+1,true,acc++[l[k]]) (qI 0 1++qI 3 1) (by (try dsimp only);exact⟨by omega,by simp;omega,fun _=>by simpa using hR,fun hc=>by cases hc⟩) (by (try dsimp only);omega) (af (by rfl) (by rfl) ?_)⟩
   try simp (disch:=omega) only [go_sem,seval]
   try simp [aC]
  |false=>
   obtain⟨ha,hw⟩:=hk4 rfl
   rw [pv h] at hw
   refine qX ?_
   refine qB (fun h2=>?_) fun h2=>?_
   ·refine qX ?_
    refine qB (fun h3=>?_) fun h3=>?_
    ·rw [if_neg (by simp;omega)] at hw
     have hR:=hf k (by omega) h (by omega)
     rw [List.drop_eq_getElem_cons h] at hR
     refine qX ?_
     refine⟨qC,hN _ (k+1,true,acc++[n]++[l[k]]) (qI 0 1++qI 5 1) (by (try dsimp only);exact⟨by omega,by rw [ha];simp;omega,fun _=>by rw [hR,ha];simp,fun hc=>by cases hc⟩) (by (try dsimp only);omega) (af (by rfl) (by rfl) ?_)⟩
     try simp (disch:=omega) only [go_sem,seval]
     try simp [aC]
    have hq:l[k]=n:=by omega
    rw [if_neg (by simp;omega)] at hw
    have hR:=ht k (by omega) h hq
    refine qX ?_
    refine⟨qC,hN _ (k+1,true,acc++[l[k]]) (qI 0 1++qI 3 1) (by (try dsimp only);exact⟨by omega,by simp;omega,fun _=>by rw [hR,ha];simp [h],fun hc=>by cases hc⟩) (by (try dsimp only);omega) (af (by rfl) (by rfl) ?_)⟩
    try simp (disch:=omega) only [go_sem,seval]
    try simp [aC]
   rw [if_pos (by simp;omega)] at hw
   refine qX ?_
   refine⟨qC,hN _ (k+1,false,acc++[l[k]]) (qI 0 1++qI 3 1) (by (try dsimp only);exact⟨by omega,by simp;omega,fun hc=>(by cases hc),fun _=>⟨by rw [ha];simp [h],by omega⟩⟩) (by (try dsimp only);omega) (af (by rfl) (by rfl) ?_)⟩
   try simp (disch:=omega) only [go_sem,seval]
   try simp [aC]
 have hkl:k=l.length:=by omega
 subst hkl
 cases b with
 |true=>
  have hR:=hk3 rfl
  rw [List.drop_length,List.append_nil] at hR
  subst hR
  refine qX ?_
  exact qF (qI 0 2)
 |false=>
  obtain⟨ha,hw⟩:=hk4 rfl
  rw [vD (by omega)] at hw
  rw [he (by omega)]
  rw [List.take_length] at ha
  subst ha
  refine qX ?_
  refine ah (qI 0 1++qI 3 1) (qC) _ (by simp only [go_sem];rfl) (by rfl) (by rfl) ?_
  simp (disch:=omega) only [go_sem,seval]
  try simp [aC]
end
section
open Go.RowKit
theorem jl {α:Type} {f:α→List Sc} {l:List α} {n:Nat} (h:n < l.length):
  n+(l.length - (n+1))=(l.take n).length+(l.drop (n+1)).length∧(l.take n).map f++((l.map f).drop (n+1)).take (l.length - (n+1))=(l.take n++l.drop (n+1)).map f:=by
 refine⟨by simp;omega,?_⟩
 simp only [List.map_append,List.map_take,List.map_drop]
 congr 1
 exact List.take_of_length_le (by simp)
theorem lE (l:List AddrD) (r:Int) (hl:l.length≤1048576):ae Tryz.prog 244 [.sc (.sl 0 0 l.length),.sc (.int .i64 r)] [some ⟨l.map AddrD.cs,4,88,false,true⟩]
  (.tu [.sc (.sl 1 0 (bz l r).1.length),.sc (.bo (bz l r).2)]) [some ⟨l.map AddrD.cs,4,88,false,true⟩,some ⟨(bz l r).1.map AddrD.cs,4,88,true,true⟩]:=by
 have hA:=d4 l r hl
 have hbd:=dv l r
 have hf:= @qT l r
 have ht:=fun n=> @gt l r n
 generalize bz l r=R at*
 refine qE Tryz.func244 Tryz.ntmps244 Tryz.results244 fun E hE=>?_
 refine qK (hA) (qI 0 1) ?_
 rcases hbd with hk|⟨hb0,hb1⟩
 ·rw [hf hk,hk]
  refine qX ?_
  refine qK (b_ l hl) (qI 0 1) ?_
  exact qF (qI 0 2)
 obtain⟨n,hk⟩:=Int.eq_ofNat_of_zero_le hb0
 rw [ht _ hk,hk]
 refine qX ?_
 refine qD [0,1,2,4,5,6,7,3,8,9,10] ?_
 have hlt:(l.take n).length=n:=by simp;omega
 have hlt2:(List.take n (List.map AddrD.cs l)).length=n:=by simp;omega
 have hC:=b_ (l.take n) (by simp;omega)
 rw [List.length_take,show min n l.length=n by omega] at hC
 refine az (hC) [some (0,some 0)] ?_
 refine qG ?_
 refine qJ (qI 0 1++qI 2 1) ?_
 exact jl (by omega)
theorem lF (l:List AddrD) (r:Int) (hl:l.length≤1048576):ae Tryz.prog 215 [.sc (.sl 0 0 l.length),.sc (.int .i64 r)] [some ⟨l.map AddrD.cs,4,88,false,true⟩]
  (.tu [.sc (.sl 1 0 (bz l r).1.length),.sc (.bo (bz l r).2)]) [some ⟨l.map AddrD.cs,4,88,false,true⟩,some ⟨(bz l r).1.map AddrD.cs,4,88,true,true⟩]:=by
 have hA:=dh l r hl
 have hbd:=dv l r
 have hf:= @qT l r
 have ht:=fun n=> @gt l r n
 generalize bz l r=R at*
 refine qE Tryz.func215 Tryz.ntmps215 Tryz.results215 fun E hE=>?_
 refine qK (hA) (qI 0 1) ?_
 rcases hbd with hk|⟨hb0,hb1⟩
 ·rw [hf hk,hk]
  refine qX ?_
  exact qF (qI 0 1++qI 2 1)
 obtain⟨n,hk⟩:=Int.eq_ofNat_of_zero_le hb0
 have hlt:(l.take n).length=n:=by simp;omega
 have hlt2:(List.take n (List.map AddrD.cs l)).length=n:=by simp;omega
 rw [ht _ hk,hk]
 refine qX ?_
 refine qJ (qI 0 1++qI 3 1) ?_
 rw [←List.map_take]
 exact jl (by omega)
theorem jG (l:List AddrD) (a:AddrD) (hl:l.length≤1048576):ae Tryz.prog 243 [.sc (.sl 0 0 l.length),.ag a.cs] [some ⟨l.map AddrD.cs,4,88,false,true⟩]
  (.tu [.sc (.sl 1 0 (bn l a).1.length),.sc (.bo (bn l a).2)]) [some ⟨l.map AddrD.cs,4,88,false,true⟩,some ⟨(bn l a).1.map AddrD.cs,4,88,true,true⟩]:=by
 have hA:=d4 l a.id (by omega)
 have hbd:=dv l a.id
 have hO:=jz (cR l a) (by have:=de l a;omega)
 have hll:=de l a
 have hLt:=fun k=> @qQ l a k
 have hLf:=fun k=> @qS l a k
 have ht:=uj (l:=l) (a:=a)
 have hf:=nK (l:=l) (a:=a)
 have hbig:=oM (l:=l) (a:=a)
 generalize cR l a=L at*
 generalize bn l a=R at*
 refine qE Tryz.func243 Tryz.ntmps243 Tryz.results243 fun E hE=>?_
 refine qK (b_ l (by omega)) (qI 0 1) ?_
 refine qK (hA) (qI 0 1) ?_
 rcases hbd with hat|⟨hb0,hb1⟩
 ·rw [hat]
  refine qX ?_
  refine an 1 hE (fun s (k:Nat)=>s.at (qU [1,1,8,28]) [(7,.sc (.int .i64 (k:Nat)))] (s.hp)) (fun (k:Nat)=>k≤l.length∧k+((l.drop k).takeWhile (fun b=>decide (b.id < a.id))).length=xj l a.id) (fun (k:Nat)=>l.length - k) 0 (qI 0 3) (qC) (⟨Nat.zero_le _,by simp [xj]⟩) (af (by rfl) (by rfl) ?_) fun k hk N hN=>?_
  ·exact qY
  obtain⟨hk1,hk2⟩:=hk
  refine qR ?_
  refine qD [0,1,2,3,4,5,6,7,8,9,10,11,12,13] ?_
  refine qB (fun h=>?_) fun h=>?_
  ·refine⟨qC,ac 400 ?_⟩
   rw [pv h] at hk2
   refine qX ?_
   refine qB (fun h2=>?_) fun h2=>?_
   ·rw [if_pos (by simp [h2])] at hk2
    exact qN hN (k+1) (qI 0 3) (by (try dsimp only);exact⟨by omega,by omega⟩)
   rw [if_neg (by simp;omega)] at hk2
   have hq:=hLf k hat (by omega)
   have e1:(l.take k).map AddrD.cs++[a.cs]++((l.map AddrD.cs).drop k).take (l.length - k)=L.map AddrD.cs:=by rw [hq];exact (jk rfl hk1).2
   have e2:k+1+(l.length - k)=L.length:=by rw [hq];simp;omega
   have hlt:(l.take k).length=k:=by simp;omega
   have hlt2:((l.map AddrD.cs).take k).length=k:=by simp;omega
   have hC:=b_ (l.take k) (by omega)
   rw [hlt] at hC
   simp only [AddrD.cs] at e1
   refine aT [(3,5),(3,9),(5,9),(6,9)] [[0,1,2,4,7,8,3,5,6,9,10,11],[0,1,2,4,7,8,3,5,9,6,10,11],[0,1,2,4,7,8,3,9,5,6,10,11],[0,1,2,4,7,8,9,3,5,6,10,11],[0,1,2,4,7,8,5,3,6,9,10,11],[0,1,2,4,7,8,5,3,9,6,10,11],[0,1,2,4,7,8,5,9,3,6,10,11],[0,1,2,4,7,8,9,5,3,6,10,11]] (by kernel_rfl) (qC) (by kernel_rfl) ?_
   simp only [aQ]
   refine⟨aa 400 ?_,aa 400 ?_,aa 400 ?_,aa 400 ?_,aa 400 ?_,aa 400 ?_,aa 400 ?_,aa 400 ?_⟩
   all_goals simp (disch:=omega) only [go_sem,seval]
   all_goals
    refine az (hC) [some (0,some 0)] ?_
    refine⟨qC,ac 400 ?_⟩
    try simp (disch:=omega) only [go_sem,seval,e1,e2]
    refine qK (hO) (qI 6 1) ?_
    refine qB (fun h9=>?_) fun h9=>?_
    ·rw [hf h9]
     refine qX ?_
     refine qK (b_ l (by omega)) (qI 0 1) ?_
     exact qF (qI 0 1++qI 7 1)
    rw [ht h9]
    refine qX ?_
    exact qF (qI 0 1++qI 6 1)
  refine⟨qC,ac 400 ?_⟩
  rw [vD (by omega)] at hk2
  refine qX ?_
  have hq:=hLf k hat (by omega)
  have e1:(l.take k).map AddrD.cs++[a.cs]++((l.map AddrD.cs).drop k).take (l.length - k)=L.map AddrD.cs:=by rw [hq];exact (jk rfl hk1).2
  have e2:k+1+(l.length - k)=L.length:=by rw [hq];simp;omega
  have hlt:(l.take k).length=k:=by simp;omega
  have hlt2:((l.map AddrD.cs).take k).length=k:=by simp;omega
  have hC:=b_ (l.take k) (by omega)
  rw [hlt] at hC
  simp only [AddrD.cs] at e1
  refine aT [(3,5),(3,9),(5,9),(6,9)] [[0,1,2,4,7,8,3,5,6,9,10,11],[0,1,2,4,7,8,3,5,9,6,10,11],[0,1,2,4,7,8,3,9,5,6,10,11],[0,1,2,4,7,8,9,3,5,6,10,11],[0,1,2,4,7,8,5,3,6,9,10,11],[0,1,2,4,7,8,5,3,9,6,10,11],[0,1,2,4,7,8,5,9,3,6,10,11],[0,1,2,4,7,8,9,5,3,6,10,11]] (by kernel_rfl) (qC) (by kernel_rfl) ?_
  simp only [aQ]
  refine⟨aa 400 ?_,aa 400 ?_,aa 400 ?_,aa 400 ?_,aa 400 ?_,aa 400 ?_,aa 400 ?_,aa 400 ?_⟩
  all_goals simp (disch:=omega) only [go_sem,seval]
  all_goals
   refine az (hC) [some (0,some 0)] ?_
   refine⟨qC,ac 400 ?_⟩
   try simp (disch:=omega) only [go_sem,seval,e1,e2]
   refine qK (hO) (qI 6 1) ?_
   refine qB (fun h9=>?_) fun h9=>?_
   ·rw [hf h9]
    refine qX ?_
    refine qK (b_ l (by omega)) (qI 0 1) ?_
    exact qF (qI 0 1++qI 7 1)
   rw [ht h9]
   refine qX ?_
   exact qF (qI 0 1++qI 6 1)
 obtain⟨n,hk⟩:=Int.eq_ofNat_of_zero_le hb0
 have hn:n < l.length:=by omega
 have e:=xC l n a
 simp only [AddrD.cs] at e
 rw [hLt n hk] at hO ht hf
 rw [List.length_set] at hO
 rw [hk]
 try simp (disch:=omega) only [go_sem,seval,e]
 refine qK (hO) (qI 2 1) ?_
 refine qB (fun h1=>?_) fun h1=>?_
 ·rw [hf h1]
  refine qX ?_
  refine qK (b_ l (by omega)) (qI 0 1) ?_
  exact qF (qI 0 1++qI 3 1)
 rw [ht h1]
 try simp only [List.length_set]
 refine qX ?_
 exact qF (qI 0 1++qI 2 1)
theorem jH (l:List AddrD) (a:AddrD) (hl:l.length≤1048576):ae Tryz.prog 158 [.sc (.sl 0 0 l.length),.ag a.cs] [some ⟨l.map AddrD.cs,4,88,false,true⟩]
  (.tu [.sc (.sl 1 0 (bn l a).1.length),.sc (.bo (bn l a).2)]) [some ⟨l.map AddrD.cs,4,88,false,true⟩,some ⟨(bn l a).1.map AddrD.cs,4,88,true,true⟩]:=by
 have hA:=dh l a.id (by omega)
 have hbd:=dv l a.id
 have hO:=jA (cR l a) (by have:=de l a;omega)
 have hll:=de l a
 have hLt:=fun k=> @qQ l a k
 have hLf:=fun k=> @qS l a k
 have ht:=uj (l:=l) (a:=a)
 have hf:=nK (l:=l) (a:=a)
 have hbig:=oM (l:=l) (a:=a)
 generalize cR l a=L at*
 generalize bn l a=R at*
 refine qE Tryz.func158 Tryz.ntmps158 Tryz.results158 fun E hE=>?_
 refine qB (fun h0=>?_) fun h0=>?_
 ·rw [hbig (by omega)]
  refine qX ?_
  exact qF (qI 0 1++qI 3 1)
 refine qX ?_
 refine qK (hA) (qI 0 1) ?_
 rcases hbd with hat|⟨hb0,hb1⟩
 ·rw [hat]
  refine qX ?_
  refine an 1 hE (fun s (k:Nat)=>s.at (qU [1,1,9,36]) [(8,.sc (.int .i64 (k:Nat)))] (s.hp)) (fun (k:Nat)=>k≤l.length∧k+((l.drop k).takeWhile (fun b=>decide (b.id < a.id))).length=xj l a.id) (fun (k:Nat)=>l.length - k) 0 (qI 0 6) (qC) (⟨Nat.zero_le _,by simp [xj]⟩) (af (by rfl) (by rfl) ?_) fun k hk N hN=>?_
  ·exact qY
  obtain⟨hk1,hk2⟩:=hk
  refine qR ?_
  refine qD [0,1,2,3,4,5,6,7,8,9,10,11,12,13] ?_
  refine qB (fun h=>?_) fun h=>?_
  ·refine⟨qC,ac 400 ?_⟩
   rw [pv h] at hk2
   refine qX ?_
   refine qB (fun h2=>?_) fun h2=>?_
   ·rw [if_pos (by simp [h2])] at hk2
    exact qN hN (k+1) (qI 0 6) (by (try dsimp only);exact⟨by omega,by omega⟩)
   rw [if_neg (by simp;omega)] at hk2
   have hq:=hLf k hat (by omega)
   have e1:(l.take k).map AddrD.cs++[a.cs]++((l.map AddrD.cs).drop k).take (l.length - k)=L.map AddrD.cs:=by rw [hq];exact (jk rfl hk1).2
   have e2:k+1+(l.length - k)=L.length:=by rw [hq];simp;omega
   have hlt:(l.take k).length=k:=by simp;omega
   have hlt2:((l.map AddrD.cs).take k).length=k:=by simp;omega
   have e3:((l.map AddrD.cs).take k)=(l.take k).map AddrD.cs:=List.map_take.symm
   simp only [AddrD.cs] at e1
   refine aT [(0,5),(0,6),(4,5),(4,6)] [[1,2,3,0,4,5,6,7,8],[1,2,3,0,5,4,6,7,8],[1,2,3,0,5,6,4,7,8],[1,2,3,5,0,4,6,7,8],[1,2,3,5,0,6,4,7,8],[1,2,3,5,6,0,4,7,8]] (by kernel_rfl) (qC) (by kernel_rfl) ?_
   simp only [aQ]
   refine⟨aa 400 ?_,aa 400 ?_,aa 400 ?_,aa 400 ?_,aa 400 ?_,aa 400 ?_⟩
   all_goals simp (disch:=omega) only [go_sem,seval]
   all_goals
    refine⟨qC,ac 400 ?_⟩
    try simp (disch:=omega) only [go_sem,seval,e1,e2,e3]
    refine qK (hO) (qI 10 1) ?_
    refine qB (fun h9=>?_) fun h9=>?_
    ·rw [hf h9]
     refine qX ?_
     exact qF (qI 0 1++qI 3 1)
    rw [ht h9]
    refine qX ?_
    exact qF (qI 0 1++qI 10 1)
  refine⟨qC,ac 400 ?_⟩
  rw [vD (by omega)] at hk2
  refine qX ?_
  have hq:=hLf k hat (by omega)
  have e1:(l.take k).map AddrD.cs++[a.cs]++((l.map AddrD.cs).drop k).take (l.length - k)=L.map AddrD.cs:=by rw [hq];exact (jk rfl hk1).2
  have e2:k+1+(l.length - k)=L.length:=by rw [hq];simp;omega
  have hlt:(l.take k).length=k:=by simp;omega
  have hlt2:((l.map AddrD.cs).take k).length=k:=by simp;omega
  have e3:((l.map AddrD.cs).take k)=(l.take k).map AddrD.cs:=List.map_take.symm
  simp only [AddrD.cs] at e1
  refine aT [(0,5),(0,6),(4,5),(4,6)] [[1,2,3,0,4,5,6,7,8],[1,2,3,0,5,4,6,7,8],[1,2,3,0,5,6,4,7,8],[1,2,3,5,0,4,6,7,8],[1,2,3,5,0,6,4,7,8],[1,2,3,5,6,0,4,7,8]] (by kernel_rfl) (qC) (by kernel_rfl) ?_
  simp only [aQ]
  refine⟨aa 400 ?_,aa 400 ?_,aa 400 ?_,aa 400 ?_,aa 400 ?_,aa 400 ?_⟩
  all_goals simp (disch:=omega) only [go_sem,seval]
  all_goals
   refine⟨qC,ac 400 ?_⟩
   try simp (disch:=omega) only [go_sem,seval,e1,e2,e3]
   refine qK (hO) (qI 10 1) ?_
   refine qB (fun h9=>?_) fun h9=>?_
   ·rw [hf h9]
    refine qX ?_
    exact qF (qI 0 1++qI 3 1)
   rw [ht h9]
   refine qX ?_
   exact qF (qI 0 1++qI 10 1)
 obtain⟨n,hk⟩:=Int.eq_ofNat_of_zero_le hb0
 have hn:n < l.length:=by omega
 have e:=xC l n a
 simp only [AddrD.cs] at e
 rw [hLt n hk] at hO ht hf
 rw [List.length_set] at hO
 rw [hk]
 try simp (disch:=omega) only [go_sem,seval,e]
 refine qK (hO) (qI 5 1) ?_
 refine qB (fun h1=>?_) fun h1=>?_
 ·rw [hf h1]
  refine qX ?_
  exact qF (qI 0 1++qI 3 1)
 rw [ht h1]
 try simp only [List.length_set]
 refine qX ?_
 exact qF (qI 0 1++qI 5 1)
end
section
open Go.RowKit
theorem tg (e:EndD) (x:LetterD) (hs:Small e):ae Tryz.prog 304 [.ag (e.cs 0),.ag x.cs] (e.hp false) (.tu [.ag ((cj e x).1.cs 7),.sc (.sl 14 0 (cj e x).2.length)])
  (e.hp false++((cj e x).1.hp true++[some ⟨(cj e x).2.map LetterD.cs,19,91,true,true⟩])):=by
 have hC:=(qH (aK e))
 have hK:=(qH (bf e))
 have hA:=d4 e.far x.id (by have:=hs.far;omega)
 have hH:=eH e.over x.id (by have:=hs.over;omega)
 have hS:=ee e x (by have:=hs.subs;omega)
 have hL:=bt x
 have hbs:=eG e x
 have hbA:=dv e.far x.id
 have hbd:=fV e x
 have hf:=q_ (e:=e) (x:=x)
 have ht:=fun (n:Nat)=> @rc e x n
 have hok:=mX.eq_1 e x
 generalize cj e x=R at*
 refine qE Tryz.func304 Tryz.ntmps304 Tryz.results304 fun E hE=>?_
 refine qK (hC) (qI 0 7) ?_
 refine qK (hS) (qI 0 7) ?_
 have hcmp:=TagD.cmp x.tag ⟨3,e.peer,e.key,x.id,x.addr⟩
 simp only [TagD.cs,go_sem] at hcmp
 rcases hbs with hk|⟨hk0,hk1⟩
 ·rw [hk]
  refine qX ?_
  refine qD [0,1,2,3,4,5,6,7,8,9,10,11,12,13,14,15,16,17,18,19,20,21,22,23,24,25,26,27,28,29,30,31,32] ?_
  refine az (hK) (qI 0 7) ?_
  refine qB (fun h1=>?_) fun h1=>?_
  ·refine az (hL) [] ?_
   refine qB (fun h2=>?_) fun h2=>?_
   ·rw [hf (by rw [hok];have:=cb (e:=e) (x:=x) (by rintro⟨_,_,hh⟩;omega);simp;omega)]
    refine qG ?_
    exact qF (qI 0 7++qI 10 7++qO 1)
   rw [hf (by rw [hok];have:=cb (e:=e) (x:=x) (by rintro⟨_,hh,_⟩;rw [h2] at hh;cases hh);simp;omega)]
   refine qG ?_
   exact qF (qI 0 7++qI 10 7++qO 1)
  rw [hf (by rw [hok];have:=cb (e:=e) (x:=x) (by rintro⟨hh,_⟩;rw [h1] at hh;cases hh);simp;omega)]
  refine qG ?_
  exact qF (qI 0 7++qI 10 7++qO 1)
 obtain⟨n,hk⟩:=Int.eq_ofNat_of_zero_le hk0
 have hn:n < e.subs.length:=by omega
 rw [hk]
 refine qX ?_
 refine qD [0,1,2,3,4,5,6,7,8,9,10,11,12,13,14,15,16,17,18,19,20,21,22,23,24,25,26,27,28,29,30,31,32] ?_
 refine az (hK) (qI 0 7) ?_
 refine qB (fun h1=>?_) fun h1=>?_
 ·refine az (hL) [] ?_
  refine qB (fun h2=>?_) fun h2=>?_
  ·have hon:=kq h1 h2 hk
   have hq1:=h1
   refine az (mP _ _ _ _) [] ?_
   try simp (disch:=omega) only [go_sem,seval,hcmp]
   refine qB (fun h4=>?_) fun h4=>?_
   ·refine az (hH) (qI 6 1) ?_
    refine qG ?_
    refine qB (fun h5=>?_) fun h5=>?_
    ·rw [hf (by rw [hok];simp [h5])]
     refine qX ?_
     exact qF (qI 0 7++qI 10 7++qO 1)
    refine qX ?_
    refine qK (hA) (qI 1 1) ?_
    rcases hbA with hi|⟨hi0,hi1⟩
    ·rw [hi]
     refine qX ?_
     have hoth:=qW hi
     refine qD [0,1,2,3,4,5,6,7,8,9,10,11,12] ?_
     refine qG ?_
     have hP:=jG e.far (iA x) (by have:=fJ hq1;omega)
     obtain⟨Q,hQ⟩:∃ Q,Q=bn e.far (iA x):=⟨_,rfl⟩
     have hQl:Q.1.length≤1048576:=by rw [hQ];have:=fJ hq1;have:=de e.far (iA x);unfold bn;split<;>dsimp only<;>omega
     rw [←hQ] at hP
     refine qX ?_
     refine qK (hP) (qI 1 1) ?_
     refine qB (fun h7=>?_) fun h7=>?_
     ·rw [hf (by rw [hok,←hQ];simp [h7])]
      refine qX ?_
      exact qF (qI 0 7++qI 10 7++qO 1)
     rw [ht _ (by rw [hok,hoth,←hQ];simp [hon,h4,h5,h7]) hon hn,←hQ]
     refine qX ?_
     refine aT [(15,16)] [(qU [0,2,3,11,2,1,14,4]),(qU [0,2,3,11,2,1,14,1,16,1,15,1,17,1])] (by kernel_rfl) (qC) (by kernel_rfl) ?_
     simp only [aQ]
     refine⟨aa 400 ?_,aa 400 ?_⟩
     all_goals simp (disch:=omega) only [go_sem,seval]
     all_goals
      refine az (di x) [] ?_
      refine az (bg (ak x) { aw with kind:=9,sgn:=e.subs[n].give,id:=x.id,addr:=x.addr }) [] ?_
      refine qG ?_
      refine ah (qI 0 7++qI 10 1++qI 18 1++qI 12 5++qI 19 1) (qC) _ (by simp only [go_sem];rfl) (by rfl) (by rfl) ?_
      simp (disch:=omega) only [go_sem,seval]
      try simp [ut,bc,LetterD.cs]
    obtain⟨i,hi⟩:=Int.eq_ofNat_of_zero_le hi0
    have hil:i < e.far.length:=by omega
    have hoth:=qZ hi hil
    rw [hi]
    refine qX ?_
    refine qD [0,1,2,3,4,5,6,7,8,9,10,11,12] ?_
    refine qG ?_
    refine qB (fun h6=>?_) fun h6=>?_
    ·rw [hf (by rw [hok,hoth];simp [h6])]
     refine qX ?_
     exact qF (qI 0 7++qI 10 7++qO 1)
    simp only [h6,decide_true,Bool.not_true] at hoth
    have hP:=jG e.far (iA x) (by have:=fJ hq1;omega)
    obtain⟨Q,hQ⟩:∃ Q,Q=bn e.far (iA x):=⟨_,rfl⟩
    have hQl:Q.1.length≤1048576:=by rw [hQ];have:=fJ hq1;have:=de e.far (iA x);unfold bn;split<;>dsimp only<;>omega
    rw [←hQ] at hP
    refine qX ?_
    refine qK (hP) (qI 1 1) ?_
    refine qB (fun h7=>?_) fun h7=>?_
    ·rw [hf (by rw [hok,←hQ];simp [h7])]
     refine qX ?_
     exact qF (qI 0 7++qI 10 7++qO 1)
    rw [ht _ (by rw [hok,hoth,←hQ];simp [hon,h4,h5,h7]) hon hn,←hQ]
    refine qX ?_
    refine aT [(15,16)] [(qU [0,2,3,11,2,1,14,4]),(qU [0,2,3,11,2,1,14,1,16,1,15,1,17,1])] (by kernel_rfl) (qC) (by kernel_rfl) ?_
    simp only [aQ]
    refine⟨aa 400 ?_,aa 400 ?_⟩
    all_goals simp (disch:=omega) only [go_sem,seval]
    all_goals
     refine az (di x) [] ?_
     refine az (bg (ak x) { aw with kind:=9,sgn:=e.subs[n].give,id:=x.id,addr:=x.addr }) [] ?_
     refine qG ?_
     refine ah (qI 0 7++qI 10 1++qI 18 1++qI 12 5++qI 19 1) (qC) _ (by simp only [go_sem];rfl) (by rfl) (by rfl) ?_
     simp (disch:=omega) only [go_sem,seval]
     try simp [ut,bc,LetterD.cs]
   rw [hf (by rw [hok];simp [h4])]
   refine qG ?_
   exact qF (qI 0 7++qI 10 7++qO 1)
  rw [hf (by rw [hok];have:=cb (e:=e) (x:=x) (by rintro⟨_,hh,_⟩;rw [h2] at hh;cases hh);simp;omega)]
  refine qG ?_
  exact qF (qI 0 7++qI 10 7++qO 1)
 rw [hf (by rw [hok];have:=cb (e:=e) (x:=x) (by rintro⟨hh,_⟩;rw [h1] at hh;cases hh);simp;omega)]
 refine qG ?_
 exact qF (qI 0 7++qI 10 7++qO 1)
theorem th (e:EndD) (x:LetterD) (hs:Small e):ae Tryz.prog 287 [.ag (e.cs 0),.ag x.cs] (e.hp false) (.tu [.ag ((cj e x).1.cs 7),.sc (.sl 14 0 (cj e x).2.length)])
  (e.hp false++((cj e x).1.hp true++[some ⟨(cj e x).2.map LetterD.cs,19,91,true,true⟩])):=by
 have hC:=(qH (aD e))
 have hK:=(qH (be e))
 have hA:=dh e.far x.id (by have:=hs.far;omega)
 have hH:=fF e.over x.id (by have:=hs.over;omega)
 have hS:=gr e x hs
 have hbA:=dv e.far x.id
 have hbd:=fV e x
 have hf:=q_ (e:=e) (x:=x)
 have ht:=fun (n:Nat)=> @rc e x n
 have hok:=mX.eq_1 e x
 generalize cj e x=R at*
 refine qE Tryz.func287 Tryz.ntmps287 Tryz.results287 fun E hE=>?_
 refine qK (hC) (qI 0 7) ?_
 refine qK (hS) (qI 0 7) ?_
 have hcmp:=TagD.cmp x.tag ⟨3,e.peer,e.key,x.id,x.addr⟩
 simp only [TagD.cs,go_sem] at hcmp
 rcases hbd with hon|⟨n,hon,hk,hn,hq1,hq2⟩
 ·rw [hf (by rw [hok];simp [hon]),hon]
  refine qX ?_
  refine qD [0,1,2,3,4,5,6,7,8,9,10,11,12,13,14,15,16,17,18,19,20,21,22] ?_
  refine qG ?_
  exact qF (qI 0 7++qI 10 7++qI 18 1)
 rw [hon]
 refine qX ?_
 refine qD [0,1,2,3,4,5,6,7,8,9,10,11,12,13,14,15,16,17,18,19,20,21,22] ?_
 refine az (mQ _ _ _ _) [] ?_
 try simp (disch:=omega) only [go_sem,seval,hcmp]
 refine qB (fun h4=>?_) fun h4=>?_
 ·refine az (hH) (qI 6 1) ?_
  refine qG ?_
  refine qB (fun h5=>?_) fun h5=>?_
  ·rw [hf (by rw [hok];simp [h5])]
   refine qX ?_
   exact qF (qI 0 7++qI 10 7++qI 18 1)
  refine qX ?_
  refine qK (hA) (qI 1 1) ?_
  rcases hbA with hi|⟨hi0,hi1⟩
  ·rw [hi]
   refine qX ?_
   have hoth:=qW hi
   refine qD [0,1,2,3,4,5,6,7,8,9,10,11,12] ?_
   refine qG ?_
   have hP:=jH e.far (iA x) (by have:=fJ hq1;omega)
   obtain⟨Q,hQ⟩:∃ Q,Q=bn e.far (iA x):=⟨_,rfl⟩
   have hQl:Q.1.length≤1048576:=by rw [hQ];have:=fJ hq1;have:=de e.far (iA x);unfold bn;split<;>dsimp only<;>omega
   rw [←hQ] at hP
   refine qX ?_
   refine qK (hP) (qI 1 1) ?_
   refine qB (fun h7=>?_) fun h7=>?_
   ·rw [hf (by rw [hok,←hQ];simp [h7])]
    refine qX ?_
    exact qF (qI 0 7++qI 10 7++qI 18 1)
   rw [ht _ (by rw [hok,hoth,←hQ];simp [hon,h4,h5,h7]) hon hn,←hQ]
   refine qX ?_
   refine aT [(0,17),(3,0),(15,0),(16,0)] [(qU [1,2,4,11,3,1,15,2,0,1,17,3]),(qU [1,2,4,11,3,1,15,1,0,1,16,4]),(qU [1,2,4,11,3,1,0,1,15,5]),(qU [1,2,4,11,0,1,3,1,15,5]),(qU [1,2,4,11,3,1,15,3,0,1,18,2])] (by kernel_rfl) (qC) (by kernel_rfl) ?_
   simp only [aQ]
   refine⟨aa 400 ?_,aa 400 ?_,aa 400 ?_,aa 400 ?_,aa 400 ?_⟩
   all_goals simp (disch:=omega) only [go_sem,seval]
   all_goals
    refine az (ci x) [] ?_
    refine az (aX (ak x) { aw with kind:=9,sgn:=e.subs[n].give,id:=x.id,addr:=x.addr }) [] ?_
    refine qG ?_
    refine ah (qI 0 7++qI 10 1++qI 19 1++qI 12 5++qI 21 1) (qC) _ (by simp only [go_sem];rfl) (by rfl) (by rfl) ?_
    simp (disch:=omega) only [go_sem,seval]
    try simp [ut,bc,LetterD.cs]
  obtain⟨i,hi⟩:=Int.eq_ofNat_of_zero_le hi0
  have hil:i < e.far.length:=by omega
  have hoth:=qZ hi hil
  rw [hi]
  refine qX ?_
  refine qD [0,1,2,3,4,5,6,7,8,9,10,11,12] ?_
  refine qG ?_
  refine qB (fun h6=>?_) fun h6=>?_
  ·rw [hf (by rw [hok,hoth];simp [h6])]
   refine qX ?_
   exact qF (qI 0 7++qI 10 7++qI 18 1)
  simp only [h6,decide_true,Bool.not_true] at hoth
  have hP:=jH e.far (iA x) (by have:=fJ hq1;omega)
  obtain⟨Q,hQ⟩:∃ Q,Q=bn e.far (iA x):=⟨_,rfl⟩
  have hQl:Q.1.length≤1048576:=by rw [hQ];have:=fJ hq1;have:=de e.far (iA x);unfold bn;split<;>dsimp only<;>omega
  rw [←hQ] at hP
  refine qX ?_
  refine qK (hP) (qI 1 1) ?_
  refine qB (fun h7=>?_) fun h7=>?_
  ·rw [hf (by rw [hok,←hQ];simp [h7])]
   refine qX ?_
   exact qF (qI 0 7++qI 10 7++qI 18 1)
  rw [ht _ (by rw [hok,hoth,←hQ];simp [hon,h4,h5,h7]) hon hn,←hQ]
  refine qX ?_
  refine aT [(0,17),(3,0),(15,0),(16,0)] [(qU [1,2,4,11,3,1,15,2,0,1,17,3]),(qU [1,2,4,11,3,1,15,1,0,1,16,4]),(qU [1,2,4,11,3,1,0,1,15,5]),(qU [1,2,4,11,0,1,3,1,15,5]),(qU [1,2,4,11,3,1,15,3,0,1,18,2])] (by kernel_rfl) (qC) (by kernel_rfl) ?_
  simp only [aQ]
  refine⟨aa 400 ?_,aa 400 ?_,aa 400 ?_,aa 400 ?_,aa 400 ?_⟩
  all_goals simp (disch:=omega) only [go_sem,seval]
  all_goals
   refine az (ci x) [] ?_
   refine az (aX (ak x) { aw with kind:=9,sgn:=e.subs[n].give,id:=x.id,addr:=x.addr }) [] ?_
   refine qG ?_
   refine ah (qI 0 7++qI 10 1++qI 19 1++qI 12 5++qI 21 1) (qC) _ (by simp only [go_sem];rfl) (by rfl) (by rfl) ?_
   simp (disch:=omega) only [go_sem,seval]
   try simp [ut,bc,LetterD.cs]
 rw [hf (by rw [hok];simp [h4])]
 refine qG ?_
 exact qF (qI 0 7++qI 10 7++qI 18 1)
end
section
open Go.RowKit
theorem ti (e:EndD) (x:LetterD) (hs:Small e):ae Tryz.prog 305 [.ag (e.cs 0),.ag x.cs] (e.hp false) (.tu [.ag ((ck e x).1.cs 7),.sc (.sl 14 0 (ck e x).2.length)])
  (e.hp false++((ck e x).1.hp true++[some ⟨(ck e x).2.map LetterD.cs,19,91,true,true⟩])):=by
 have hC:=(qH (aK e))
 have hK:=(qH (bf e))
 have hA:=d4 e.own x.id (by have:=hs.own;omega)
 have hS:=ee e x (by have:=hs.subs;omega)
 have hL:=bt x
 have hbs:=eG e x
 have hbA:=dv e.own x.id
 have hbd:=fV e x
 have hf:=rd (e:=e) (x:=x)
 have ht:=fun (n:Nat)=> @re e x n
 have hok:=jI.eq_1 e x
 generalize ck e x=R at*
 refine qE Tryz.func305 Tryz.ntmps305 Tryz.results305 fun E hE=>?_
 refine qK (hC) (qI 0 7) ?_
 refine qK (hA) (qI 0 1) ?_
 rcases hbA with hi|⟨hi0,hi1⟩
 ·rw [hi]
  refine qX ?_
  rcases hbs with hk|⟨hk0,hk1⟩
  ·refine qD [0,1,2,3,4,5,6,7,8,9,10,11,12,13,14,15,16,17,18,19,20,21,22,23,24,25,26] ?_
   refine az (hK) (qI 0 7) ?_
   refine qB (fun h1=>?_) fun h1=>?_
   ·refine az (hL) [] ?_
    refine qB (fun h2=>?_) fun h2=>?_
    ·refine az (hS) (qI 0 7) ?_
     rw [hk]
     refine qX ?_
     rw [hf (fK hi)]
     refine qG ?_
     exact qF (qI 0 7++qI 10 7++qO 1)
    rw [hf (fK hi)]
    refine qG ?_
    exact qF (qI 0 7++qI 10 7++qO 1)
   rw [hf (fK hi)]
   refine qG ?_
   exact qF (qI 0 7++qI 10 7++qO 1)
  obtain⟨n,hk⟩:=Int.eq_ofNat_of_zero_le hk0
  have hn:n < e.subs.length:=by omega
  refine qD [0,1,2,3,4,5,6,7,8,9,10,11,12,13,14,15,16,17,18,19,20,21,22,23,24,25,26] ?_
  refine az (hK) (qI 0 7) ?_
  refine qB (fun h1=>?_) fun h1=>?_
  ·refine az (hL) [] ?_
   refine qB (fun h2=>?_) fun h2=>?_
   ·refine az (hS) (qI 0 7) ?_
    rw [hk]
    refine qX ?_
    have hon:=kq h1 h2 hk
    rw [hf (fK hi)]
    refine qG ?_
    exact qF (qI 0 7++qI 10 7++qO 1)
   rw [hf (fK hi)]
   refine qG ?_
   exact qF (qI 0 7++qI 10 7++qO 1)
  rw [hf (fK hi)]
  refine qG ?_
  exact qF (qI 0 7++qI 10 7++qO 1)
 obtain⟨i,hi⟩:=Int.eq_ofNat_of_zero_le hi0
 have hil:i < e.own.length:=by omega
 rw [hi]
 refine qX ?_
 rcases hbs with hk|⟨hk0,hk1⟩
 ·refine qD [0,1,2,3,4,5,6,7,8,9,10,11,12,13,14,15,16,17,18,19,20,21,22,23,24,25,26] ?_
  refine az (hK) (qI 0 7) ?_
  refine qB (fun h1=>?_) fun h1=>?_
  ·refine az (hL) [] ?_
   refine qB (fun h2=>?_) fun h2=>?_
   ·refine az (hS) (qI 0 7) ?_
    rw [hk]
    refine qX ?_
    rw [hf (by rw [ef hi hil];have:=cb (e:=e) (x:=x) (by rintro⟨_,_,hh⟩;omega);simp;omega)]
    refine qG ?_
    exact qF (qI 0 7++qI 10 7++qO 1)
   rw [hf (by rw [ef hi hil];have:=cb (e:=e) (x:=x) (by rintro⟨_,hh,_⟩;rw [h2] at hh;cases hh);simp;omega)]
   refine qG ?_
   exact qF (qI 0 7++qI 10 7++qO 1)
  rw [hf (by rw [ef hi hil];have:=cb (e:=e) (x:=x) (by rintro⟨hh,_⟩;rw [h1] at hh;cases hh);simp;omega)]
  refine qG ?_
  exact qF (qI 0 7++qI 10 7++qO 1)
 obtain⟨n,hk⟩:=Int.eq_ofNat_of_zero_le hk0
 have hn:n < e.subs.length:=by omega
 refine qD [0,1,2,3,4,5,6,7,8,9,10,11,12,13,14,15,16,17,18,19,20,21,22,23,24,25,26] ?_
 refine az (hK) (qI 0 7) ?_
 refine qB (fun h1=>?_) fun h1=>?_
 ·refine az (hL) [] ?_
  refine qB (fun h2=>?_) fun h2=>?_
  ·refine az (hS) (qI 0 7) ?_
   rw [hk]
   refine qX ?_
   have hon:=kq h1 h2 hk
   refine qG ?_
   refine qB (fun h5=>?_) fun h5=>?_
   ·rw [ht _ (by rw [ef hi hil];simp [hon,h5]) hi hil]
    refine qX ?_
    refine ah (qI 0 7++qI 10 7++qO 1) (qC) _ (by simp only [go_sem];rfl) (by rfl) (by rfl) ?_
    simp (disch:=omega) only [go_sem,seval]
    try simp [List.map_set,AddrD.cs]
   rw [hf (by rw [ef hi hil];simp [h5])]
   refine qX ?_
   exact qF (qI 0 7++qI 10 7++qO 1)
  rw [hf (by rw [ef hi hil];have:=cb (e:=e) (x:=x) (by rintro⟨_,hh,_⟩;rw [h2] at hh;cases hh);simp;omega)]
  refine qG ?_
  exact qF (qI 0 7++qI 10 7++qO 1)
 rw [hf (by rw [ef hi hil];have:=cb (e:=e) (x:=x) (by rintro⟨hh,_⟩;rw [h1] at hh;cases hh);simp;omega)]
 refine qG ?_
 exact qF (qI 0 7++qI 10 7++qO 1)
theorem tj (e:EndD) (x:LetterD) (hs:Small e):ae Tryz.prog 306 [.ag (e.cs 0),.ag x.cs] (e.hp false) (.tu [.ag ((cm e x).1.cs 7),.sc (.sl 14 0 (cm e x).2.length)])
  (e.hp false++((cm e x).1.hp true++[some ⟨(cm e x).2.map LetterD.cs,19,91,true,true⟩])):=by
 have hC:=(qH (aK e))
 have hK:=(qH (bf e))
 have hA:=d4 e.far x.id (by have:=hs.far;omega)
 have hD:=lE e.far x.id (by have:=hs.far;omega)
 have hS:=ee e x (by have:=hs.subs;omega)
 have hL:=bt x
 have hbs:=eG e x
 have hbA:=dv e.far x.id
 have hbd:=fV e x
 have hf:=rh (e:=e) (x:=x)
 have ht:=fun (n:Nat)=> @ri e x n
 have hok:=nS.eq_1 e x
 have hpl:=ky e.over x.id
 generalize cm e x=R at*
 refine qE Tryz.func306 Tryz.ntmps306 Tryz.results306 fun E hE=>?_
 refine qK (hC) (qI 0 7) ?_
 refine qK (hA) (qI 1 1) ?_
 rcases hbA with hi|⟨hi0,hi1⟩
 ·rw [hi]
  refine qX ?_
  rcases hbs with hk|⟨hk0,hk1⟩
  ·refine qK (hK) (qI 0 7) ?_
   refine qB (fun h1=>?_) fun h1=>?_
   ·refine qK (hL) [] ?_
    refine qB (fun h2=>?_) fun h2=>?_
    ·refine qK (hS) (qI 0 7) ?_
     rw [hk]
     refine qX ?_
     rw [hf (by rw [hok];have:=cb (e:=e) (x:=x) (by rintro⟨_,_,hh⟩;omega);simp;omega)]
     refine qX ?_
     exact qF (qI 0 7++qI 10 7++qO 1)
    rw [hf (by rw [hok];have:=cb (e:=e) (x:=x) (by rintro⟨_,hh,_⟩;rw [h2] at hh;cases hh);simp;omega)]
    refine qX ?_
    exact qF (qI 0 7++qI 10 7++qO 1)
   rw [hf (by rw [hok];have:=cb (e:=e) (x:=x) (by rintro⟨hh,_⟩;rw [h1] at hh;cases hh);simp;omega)]
   refine qX ?_
   exact qF (qI 0 7++qI 10 7++qO 1)
  obtain⟨n,hk⟩:=Int.eq_ofNat_of_zero_le hk0
  have hn:n < e.subs.length:=by omega
  refine qK (hK) (qI 0 7) ?_
  refine qB (fun h1=>?_) fun h1=>?_
  ·refine qK (hL) [] ?_
   refine qB (fun h2=>?_) fun h2=>?_
   ·refine qK (hS) (qI 0 7) ?_
    rw [hk]
    refine qX ?_
    have hon:=kq h1 h2 hk
    have hq1:=h1
    rw [hf (by rw [hok];simp [hi])]
    refine qX ?_
    exact qF (qI 0 7++qI 10 7++qO 1)
   rw [hf (by rw [hok];have:=cb (e:=e) (x:=x) (by rintro⟨_,hh,_⟩;rw [h2] at hh;cases hh);simp;omega)]
   refine qX ?_
   exact qF (qI 0 7++qI 10 7++qO 1)
  rw [hf (by rw [hok];have:=cb (e:=e) (x:=x) (by rintro⟨hh,_⟩;rw [h1] at hh;cases hh);simp;omega)]
  refine qX ?_
  exact qF (qI 0 7++qI 10 7++qO 1)
 obtain⟨i,hi⟩:=Int.eq_ofNat_of_zero_le hi0
 have hil:i < e.far.length:=by omega
 rw [hi]
 refine qX ?_
 rcases hbs with hk|⟨hk0,hk1⟩
 ·refine qK (hK) (qI 0 7) ?_
  refine qB (fun h1=>?_) fun h1=>?_
  ·refine qK (hL) [] ?_
   refine qB (fun h2=>?_) fun h2=>?_
   ·refine qK (hS) (qI 0 7) ?_
    rw [hk]
    refine qX ?_
    rw [hf (by rw [hok];have:=cb (e:=e) (x:=x) (by rintro⟨_,_,hh⟩;omega);simp;omega)]
    refine qX ?_
    exact qF (qI 0 7++qI 10 7++qO 1)
   rw [hf (by rw [hok];have:=cb (e:=e) (x:=x) (by rintro⟨_,hh,_⟩;rw [h2] at hh;cases hh);simp;omega)]
   refine qX ?_
   exact qF (qI 0 7++qI 10 7++qO 1)
  rw [hf (by rw [hok];have:=cb (e:=e) (x:=x) (by rintro⟨hh,_⟩;rw [h1] at hh;cases hh);simp;omega)]
  refine qX ?_
  exact qF (qI 0 7++qI 10 7++qO 1)
 obtain⟨n,hk⟩:=Int.eq_ofNat_of_zero_le hk0
 have hn:n < e.subs.length:=by omega
 refine qK (hK) (qI 0 7) ?_
 refine qB (fun h1=>?_) fun h1=>?_
 ·refine qK (hL) [] ?_
  refine qB (fun h2=>?_) fun h2=>?_
  ·refine qK (hS) (qI 0 7) ?_
   rw [hk]
   refine qX ?_
   have hon:=kq h1 h2 hk
   have hq1:=h1
   rw [ht _ (by rw [hok];simp [hon,hi]) hi hil]
   have hdl:(bz e.far x.id).1.length≤e.far.length:=by rw [gt hi];simp;omega
   refine qX ?_
   refine qK (hD) (qI 1 1) ?_
   refine qK (xH e.over x.id (by have:=rk hq1;omega)) (qI 6 1) ?_
   refine an 7 hE (fun s (k:Nat)=>s.at (qU [0,4,7,1,9,50,61,17]) [(60,.sc (.int .i64 (k:Nat)))] (s.hp.set 12 (some ⟨(es e.far[i].addr e.subs k).map SubD.cs,10,201,true,true⟩))) (fun (k:Nat)=>k≤e.subs.length) (fun (k:Nat)=>e.subs.length - k) 0 (qI 0 20) (qC) (Nat.zero_le _) (af (by rfl) (by rfl) ?_) fun k hk N hN=>?_
   ·refine qX ?_
    rw [rg]
   refine ac 400 ?_
   have hsb:=hs.subs
   have hgl:(es e.far[i].addr e.subs k).length=e.subs.length:=uu
   refine qX ?_
   refine qB (fun h=>?_) fun h=>?_
   ·have hg:∀ p:k < (es e.far[i].addr e.subs k).length,(es e.far[i].addr e.subs k)[k]'p=e.subs[k]:=by
     intro p
     have hq:=xI (a:=e.far[i].addr) h
     rw [List.getElem?_eq_getElem p] at hq
     exact Option.some.inj hq
    try simp (disch:=omega) only [go_sem,seval,hg]
    refine qB (fun h9=>?_) fun h9=>?_
    ·refine qX ?_
     refine⟨qC,hN _ (k+1) (qI 0 20) (by (try dsimp only);exact by omega) (by (try dsimp only);omega) (af (by rfl) (by rfl) ?_)⟩
     refine qX ?_
     rw [←uv h,List.map_set]
     simp [lG,h9,hg,SubD.cs]
    refine qX ?_
    refine⟨qC,hN _ (k+1) (qI 0 20) (by (try dsimp only);exact by omega) (by (try dsimp only);omega) (af (by rfl) (by rfl) ?_)⟩
    refine qX ?_
    rw [rf h h9]
   have hkl:k=e.subs.length:=by omega
   subst hkl
   rw [uw]
   refine qX ?_
   exact qF (qI 0 7++qI 10 1++qI 18 1++qI 12 4++qI 19 1++qO 1)
  rw [hf (by rw [hok];have:=cb (e:=e) (x:=x) (by rintro⟨_,hh,_⟩;rw [h2] at hh;cases hh);simp;omega)]
  refine qX ?_
  exact qF (qI 0 7++qI 10 7++qO 1)
 rw [hf (by rw [hok];have:=cb (e:=e) (x:=x) (by rintro⟨hh,_⟩;rw [h1] at hh;cases hh);simp;omega)]
 refine qX ?_
 exact qF (qI 0 7++qI 10 7++qO 1)
theorem tn (e:EndD) (x:LetterD) (hs:Small e):ae Tryz.prog 288 [.ag (e.cs 0),.ag x.cs] (e.hp false) (.tu [.ag ((ck e x).1.cs 7),.sc (.sl 14 0 (ck e x).2.length)])
  (e.hp false++((ck e x).1.hp true++[some ⟨(ck e x).2.map LetterD.cs,19,91,true,true⟩])):=by
 have hC:=(qH (aD e))
 have hK:=(qH (be e))
 have hA:=dh e.own x.id (by have:=hs.own;omega)
 have hS:=gr e x hs
 have hbA:=dv e.own x.id
 have hbd:=fV e x
 have hf:=rd (e:=e) (x:=x)
 have ht:=fun (n:Nat)=> @re e x n
 have hok:=jI.eq_1 e x
 generalize ck e x=R at*
 refine qE Tryz.func288 Tryz.ntmps288 Tryz.results288 fun E hE=>?_
 refine qK (hC) (qI 0 7) ?_
 refine qK (hA) (qI 0 1) ?_
 rcases hbA with hi|⟨hi0,hi1⟩
 ·rw [hi]
  refine qX ?_
  refine qD [0,1,2,3,4,5,6,7,8,9,10,11,12,13,14,15,16,17,18] ?_
  refine az (hS) (qI 0 7) ?_
  rcases hbd with hon|⟨n,hon,hk,hn,hq1,hq2⟩
  ·rw [hon]
   refine qX ?_
   rw [hf (fK hi)]
   refine qG ?_
   exact qF (qI 0 7++qI 10 7++qI 18 1)
  rw [hon]
  refine qX ?_
  rw [hf (fK hi)]
  refine qG ?_
  exact qF (qI 0 7++qI 10 7++qI 18 1)
 obtain⟨i,hi⟩:=Int.eq_ofNat_of_zero_le hi0
 have hil:i < e.own.length:=by omega
 rw [hi]
 refine qX ?_
 refine qD [0,1,2,3,4,5,6,7,8,9,10,11,12,13,14,15,16,17,18] ?_
 refine az (hS) (qI 0 7) ?_
 rcases hbd with hon|⟨n,hon,hk,hn,hq1,hq2⟩
 ·rw [hon]
  refine qX ?_
  rw [hf (by rw [ef hi hil];have:=hon;simp;omega)]
  refine qG ?_
  exact qF (qI 0 7++qI 10 7++qI 18 1)
 rw [hon]
 refine qX ?_
 refine qG ?_
 refine qB (fun h5=>?_) fun h5=>?_
 ·rw [ht _ (by rw [ef hi hil];simp [hon,h5]) hi hil]
  refine qX ?_
  refine ah (qI 0 7++qI 10 7++qI 18 1) (qC) _ (by simp only [go_sem];rfl) (by rfl) (by rfl) ?_
  simp (disch:=omega) only [go_sem,seval]
  try simp [List.map_set,AddrD.cs]
 rw [hf (by rw [ef hi hil];simp [h5])]
 refine qX ?_
 exact qF (qI 0 7++qI 10 7++qI 18 1)
theorem tp (e:EndD) (x:LetterD) (hs:Small e):ae Tryz.prog 289 [.ag (e.cs 0),.ag x.cs] (e.hp false) (.tu [.ag ((cm e x).1.cs 7),.sc (.sl 14 0 (cm e x).2.length)])
  (e.hp false++((cm e x).1.hp true++[some ⟨(cm e x).2.map LetterD.cs,19,91,true,true⟩])):=by
 have hC:=(qH (aD e))
 have hK:=(qH (be e))
 have hA:=dh e.far x.id (by have:=hs.far;omega)
 have hD:=lF e.far x.id (by have:=hs.far;omega)
 have hS:=gr e x hs
 have hbA:=dv e.far x.id
 have hbd:=fV e x
 have hf:=rh (e:=e) (x:=x)
 have ht:=fun (n:Nat)=> @ri e x n
 have hok:=nS.eq_1 e x
 have hpl:=ky e.over x.id
 generalize cm e x=R at*
 refine qE Tryz.func289 Tryz.ntmps289 Tryz.results289 fun E hE=>?_
 refine qK (hC) (qI 0 7) ?_
 refine qK (hA) (qI 1 1) ?_
 rcases hbA with hi|⟨hi0,hi1⟩
 ·rw [hi]
  refine qX ?_
  refine qK (hS) (qI 0 7) ?_
  rcases hbd with hon|⟨n,hon,hk,hn,hq1,hq2⟩
  ·rw [hon]
   refine qX ?_
   rw [hf (by rw [hok];have:=hon;simp;omega)]
   refine qX ?_
   exact qF (qI 0 7++qI 10 7++qI 18 1)
  rw [hon]
  refine qX ?_
  rw [hf (by rw [hok];simp [hi])]
  refine qX ?_
  exact qF (qI 0 7++qI 10 7++qI 18 1)
 obtain⟨i,hi⟩:=Int.eq_ofNat_of_zero_le hi0
 have hil:i < e.far.length:=by omega
 rw [hi]
 refine qX ?_
 refine qK (hS) (qI 0 7) ?_
 rcases hbd with hon|⟨n,hon,hk,hn,hq1,hq2⟩
 ·rw [hon]
  refine qX ?_
  rw [hf (by rw [hok];have:=hon;simp;omega)]
  refine qX ?_
  exact qF (qI 0 7++qI 10 7++qI 18 1)
 rw [hon]
 refine qX ?_
 rw [ht _ (by rw [hok];simp [hon,hi]) hi hil]
 have hdl:(bz e.far x.id).1.length≤e.far.length:=by rw [gt hi];simp;omega
 refine qX ?_
 refine qK (oN e.over x.id (by have:=rk hq1;omega)) (qI 6 1) ?_
 refine qK (hD) (qI 1 1) ?_
 refine an 7 hE (fun s (k:Nat)=>s.at (qU [0,2,3,1,9,58]) [(8,.sc (.int .i64 (k:Nat)))] (s.hp.set 12 (some ⟨(es e.far[i].addr e.subs k).map SubD.cs,10,201,true,true⟩))) (fun (k:Nat)=>k≤e.subs.length) (fun (k:Nat)=>e.subs.length - k) 0 (qI 0 20) (qC) (Nat.zero_le _) (af (by rfl) (by rfl) ?_) fun k hk N hN=>?_
 ·refine qX ?_
  rw [rg]
 refine ac 400 ?_
 have hsb:=hs.subs
 have hgl:(es e.far[i].addr e.subs k).length=e.subs.length:=uu
 refine qX ?_
 refine qB (fun h=>?_) fun h=>?_
 ·have hg:∀ p:k < (es e.far[i].addr e.subs k).length,(es e.far[i].addr e.subs k)[k]'p=e.subs[k]:=by
   intro p
   have hq:=xI (a:=e.far[i].addr) h
   rw [List.getElem?_eq_getElem p] at hq
   exact Option.some.inj hq
  try simp (disch:=omega) only [go_sem,seval,hg]
  refine qD [0,1,2,3,4,5,6,7,8,9,10,11,12,13] ?_
  refine⟨qC,ac 400 ?_⟩
  try simp (disch:=omega) only [go_sem,seval,hg]
  refine qB (fun h9=>?_) fun h9=>?_
  ·refine qX ?_
   refine⟨qC,hN _ (k+1) (qI 0 20) (by (try dsimp only);exact by omega) (by (try dsimp only);omega) (af (by rfl) (by rfl) ?_)⟩
   refine qX ?_
   rw [←uv h,List.map_set]
   simp [lG,h9,hg,SubD.cs]
  refine qX ?_
  refine⟨qC,hN _ (k+1) (qI 0 20) (by (try dsimp only);exact by omega) (by (try dsimp only);omega) (af (by rfl) (by rfl) ?_)⟩
  refine qX ?_
  rw [rf h h9]
 have hkl:k=e.subs.length:=by omega
 subst hkl
 rw [uw]
 refine qX ?_
 exact qF (qI 0 7++qI 10 1++qI 19 1++qI 12 4++qI 18 1++qI 20 1)
end
end Go.Proofs.YtbgakfbnkkfbkaaGreat
