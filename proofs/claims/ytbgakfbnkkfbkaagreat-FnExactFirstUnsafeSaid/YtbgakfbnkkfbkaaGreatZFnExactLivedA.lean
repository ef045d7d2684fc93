/-
  Texts merged for this claim by shake.py: what its proof needs.
-/
import Derived.Tactics
import Derived.Below
import Derived.Laws.AppendOwn
import Derived.Laws.OwnMore
import Derived.Laws.Slices
import Derived.Laws.Small
import Derived.Laws.Strings
import Derived.KernelRfl
import Derived.Laws.MakeOwn
import Derived.Laws.BytesString
import Derived.Laws.BytesArg
import Derived.Laws.Build
import Derived.Laws.Concat
import Derived.Laws.StructEq
import Derived.Lib.ConvBytes
import Derived.Orders
import Derived.WalkKit
import Derived.ProofKit
import Derived.ShutString
import Derived.OpenShut
import Derived.ChangeOld
import Derived.Carry
import Derived.Test.YtbgakfbnkkfbkaaGreatChecked
import Derived.Laws.BitsLemmas
import Derived.JoinedOf
import Derived.Test.YtbgakfbnkkfbkaaGreatRows
import Derived.Test.YtbgakfbnkkfbkaaGreatZFnBaseA
import Derived.Test.YtbgakfbnkkfbkaaGreatZFnBaseB
import Derived.Test.YtbgakfbnkkfbkaaGreatZFnBaseC
import Derived.Test.YtbgakfbnkkfbkaaGreatZFnBaseD
import Derived.Test.YtbgakfbnkkfbkaaGreatZFnBaseE
import Derived.Test.YtbgakfbnkkfbkaaGreatZFnBaseF
import Derived.Test.YtbgakfbnkkfbkaaGreatZFnBaseG
import Derived.Test.YtbgakfbnkkfbkaaGreatZFnBaseH
import Derived.Test.YtbgakfbnkkfbkaaGreatZFnBaseI
import Derived.Test.YtbgakfbnkkfbkaaGreatZFnBaseJ
import Derived.Test.YtbgakfbnkkfbkaaGreatZFnBaseK
import Derived.Test.YtbgakfbnkkfbkaaGreatZFnBaseL
import Derived.Test.YtbgakfbnkkfbkaaGreatZFnBaseM
set_option maxHeartbeats 16000000
set_option maxRecDepth 100000
set_option linter.unusedVariables false
set_option linter.unusedSimpArgs false
namespace Go.Proofs.YtbgakfbnkkfbkaaGreat
section
open Go.RowKit
end
section
open Go.RowKit
end
section
open Go.RowKit
end
section
open Go.RowKit
section
variable {P:Program} {β:Be} {s:S} {a:Act} {w:World} {o:Oper} {r:OpR} {ty:TypeId}
end
end
section
open Go.RowKit
section
variable {P:Program} {β:Be} {s:S} {a:Act} {w:World} {o:Oper} {r:OpR} {ty:TypeId}
end
end
section
open Go.RowKit
section
variable {P:Program} {β:Be} {s:S} {a:Act} {w:World} {o:Oper} {r:OpR} {ty:TypeId}
end
end
section
open Go.RowKit
section
variable {P:Program} {β:Be} {s:S} {a:Act} {w:World} {o:Oper} {r:OpR} {ty:TypeId}
end
end
section
open Go.RowKit
section
variable {P:Program} {β:Be} {s:S} {a:Act} {w:World} {o:Oper} {r:OpR} {ty:TypeId}
end
end
section
open Go.RowKit
end
section
open Go.RowKit
end
section
open Go.RowKit
end
section
open Go.RowKit
section
variable {β β0':Be} {ρ:Rho} {N:Nat}
end
end
section
open Go.RowKit
section
variable {P:Program} {β:Be} {s:S} {w:World} {tm:Array Value}
end
end
section
end
section
open Go.RowKit
end
section
open Go.RowKit
end
section
open Go.RowKit
end
section
open Go.RowKit
end
section
open Go.RowKit
end
section
open Go.RowKit
end
section
open Go.RowKit
end
section
open Go.RowKit
end
section
open Go.RowKit
section
variable {P:Program} {E:Entry} {F:S→Prop} {c q:Prop}
end
end
section
open Go.ChangeShapes Go.WideShapes Go.ChangeAt Go.RowKit
section
variable {H:Type} {enc:TypeId×Value→H} {P:Program} {w:World} {base:Nat} {held:Bool}
end
end
section
open Go.ChangeShapes Go.WideShapes Go.ChangeAt Go.RowKit
theorem L2.monoE {cs:List Sc} {vs:List Value} (hf:gV cs=true) (h:L2 (ScR []) cs vs) (β:Be):L2 (ScR β) cs vs:=L2.mono (fun _ _=>ScR.mono (fun o p hp=>by simp at hp)) h
end
section
end
section
open Go.RowKit
theorem dA {l:List (List UInt8)} {k:Nat} (h:k < l.length):(l.map TV)[k]? =some [.st l[k]]:=by simp [TV,h]
end
section
def iP (n:Nat) (acc:List UInt8):List UInt8:=
 if h:n < 10 then UInt8.ofNat (48+n)::acc else iP (n / 10) (UInt8.ofNat (48+n % 10)::acc)
termination_by n
decreasing_by omega
theorem Ew (n:Nat) (acc:List UInt8):acc.length < (iP n acc).length:=by
 induction n using Nat.strongRecOn generalizing acc with
 |_ n ih=>
  rw [iP]
  split
  ·simp
  have:=ih (n / 10) (by omega) (UInt8.ofNat (48+n % 10)::acc)
  simp only [List.length_cons] at this
  omega
theorem Ex (k:Nat):∀ (n:Nat) (acc:List UInt8),n < 10 ^ (k+1)→(iP n acc).length≤acc.length+(k+1):=by
 induction k with
 |zero=>
  intro n acc h
  rw [iP,dif_pos (by omega)]
  simp
 |succ k ih=>
  intro n acc h
  rw [iP]
  split
  ·simp
  have:=ih (n / 10) (UInt8.ofNat (48+n % 10)::acc) (by rw [Nat.pow_succ] at h;omega)
  simp only [List.length_cons] at this
  omega
theorem Ey {n:Int} (h:I64 n):(iP n.natAbs []).length≤20:=by
 have h': -9223372036854775808≤n∧n≤9223372036854775807:=h
 have:=Ex 19 n.natAbs [] (by omega)
 simpa using this
end
section
open Go.ChangeShapes Go.WideShapes Go.ChangeAt Go.RowKit
end
section
open Go.ChangeShapes Go.WideShapes Go.ChangeAt Go.RowKit
end
section
end
section
end
section
end
section
end
section
end
section
end
section
open Go.RowKit
end
section
open Go.RowKit
end
section
open Go.RowKit
end
section
open Go.RowKit
end
section
open Go.RowKit
end
section
open Go.RowKit
end
section
open Go.RowKit
end
section
open Go.RowKit
end
section
open Go.RowKit
end
section
open Go.RowKit
end
section
open Go.RowKit
end
section
open Go.RowKit
end
section
open Go.RowKit
theorem Z2 (r b:Int):ae Tryz.prog 177 [.sc (.int .i64 r),.sc (.int .i64 b)] [] (.tu [.ag (BucketD.cs (if cP ⟨r,b,b⟩ then⟨r,b,b⟩ else⟨0,0,0⟩)),.sc (.bo (cP ⟨r,b,b⟩))]) []:=by
 obtain⟨R,hR⟩:∃ R,R=(if cP ⟨r,b,b⟩ then (⟨r,b,b⟩:BucketD) else⟨0,0,0⟩):=⟨_,rfl⟩
 rw [←hR]
 refine qE Tryz.func177 Tryz.ntmps177 Tryz.results177 fun E hE=>?_
 refine qK (i_ ⟨r,b,b⟩) [] ?_
 refine qB (fun h1=>?_) fun h1=>?_
 ·rw [h1,if_neg (by simp)] at hR
  subst hR
  refine ah [] (qC) _ (by simp only [go_sem];rfl) (by rfl) (by rfl) ?_
  simp (disch:=omega) only [go_sem,seval]
  try exact⟨⟨rfl,rfl,rfl⟩,h1⟩
 rw [h1,if_pos rfl] at hR
 subst hR
 refine ah [] (qC) _ (by simp only [go_sem];rfl) (by rfl) (by rfl) ?_
 simp (disch:=omega) only [go_sem,seval]
 try exact⟨⟨rfl,rfl,rfl⟩,h1⟩
end
section
open Go.RowKit
end
section
open Go.RowKit
end
section
open Go.RowKit
end
section
open Go.RowKit
theorem oG (x:RoadD):ae Tryz.prog 270 [.ag x.cs,.ag x.cs] [] (.sc (.bo true)) []:=by
 refine qE Tryz.func270 Tryz.ntmps270 Tryz.results270 fun E hE=>?_
 exact qF []
theorem sL (x:PolicyD):ae Tryz.prog 87 [.ag x.cs,.ag x.cs] [] (.sc (.bo true)) []:=by
 refine qE Tryz.func87 Tryz.ntmps87 Tryz.results87 fun E hE=>?_
 exact qF []
theorem sN (x:BucketD):ae Tryz.prog 91 [.ag x.cs,.ag x.cs] [] (.sc (.bo true)) []:=by
 refine qE Tryz.func91 Tryz.ntmps91 Tryz.results91 fun E hE=>?_
 exact qF []
theorem xq (x:HalfD):ae Tryz.prog 194 [.ag x.cs,.ag x.cs] [] (.sc (.bo true)) []:=by
 refine qE Tryz.func194 Tryz.ntmps194 Tryz.results194 fun E hE=>?_
 refine qK (oG x.road) [] ?_
 exact qF []
theorem yV (x:SubD):ae Tryz.prog 193 [.ag x.cs,.ag x.cs] [] (.sc (.bo true)) []:=by
 refine qE Tryz.func193 Tryz.ntmps193 Tryz.results193 fun E hE=>?_
 refine qK (oG x.road) [] ?_
 exact qF []
theorem vi (x:PieceD):ae Tryz.prog 271 [.ag x.cs,.ag x.cs] [] (.sc (.bo true)) []:=by
 refine qE Tryz.func271 Tryz.ntmps271 Tryz.results271 fun E hE=>?_
 exact qF []
theorem yX (x:OutD):ae Tryz.prog 92 [.ag x.cs,.ag x.cs] [] (.sc (.bo true)) []:=by
 refine qE Tryz.func92 Tryz.ntmps92 Tryz.results92 fun E hE=>?_
 exact qF []
theorem dq (x:ActD):ae Tryz.prog 27 [.ag x.cs] [] (.ag x.cs) []:=by
 refine qE Tryz.func27 Tryz.ntmps27 Tryz.results27 fun E hE=>?_
 refine qK (oH x.addr) [] ?_
 refine qK (lz x.letter) [] ?_
 exact qF []
theorem aaz (x:ActD):ae Tryz.prog 37 [.ag x.cs,.ag x.cs] [] (.sc (.bo true)) []:=by
 refine qE Tryz.func37 Tryz.ntmps37 Tryz.results37 fun E hE=>?_
 refine qK (xo x.addr) [] ?_
 refine qK (sO x.letter) [] ?_
 exact qF []
end
section
open Go.RowKit
theorem fH (l:List Int) (hl:l.length≤4611686018427387904):ae Tryz.prog 17 [.sc (.sl 0 0 l.length),.sc (.sl 1 0 l.length)] [some ⟨l.map aC,1,3,false,true⟩,some ⟨l.map aC,1,3,false,true⟩] (.sc (.bo true)) [some ⟨l.map aC,1,3,false,true⟩,some ⟨l.map aC,1,3,false,true⟩]:=by
 refine qE Tryz.func17 Tryz.ntmps17 Tryz.results17 fun E hE=>?_
 refine an 2 hE (fun s (k:Nat)=>s.at (qU [4,1,6,20]) [(5,.sc (.int .i64 (k:Nat)))] (s.hp)) (fun (k:Nat)=>k≤l.length) (fun (k:Nat)=>l.length - k) 0 (qI 0 2) (qC) (Nat.zero_le _) (af (by rfl) (by rfl) ?_) fun k hk N hN=>?_
 ·exact qY
 refine qR ?_
 refine qB (fun h=>?_) fun h=>?_
 ·refine ar (qU [0,9]) (by kernel_rfl) (trivial) (by kernel_rfl) (aa 400 ?_)
  simp (disch:=omega) only [go_sem,seval]
  try simp (disch:=omega) only [go_sem,seval,dA h]
  refine qG ?_
  exact qN hN (k+1) (qI 0 2) (by (try dsimp only);exact h)
 exact qF (qI 0 2)
theorem mM (l:List AddrD) (hl:l.length≤4611686018427387904):ae Tryz.prog 88 [.sc (.sl 0 0 l.length),.sc (.sl 1 0 l.length)] [some ⟨l.map AddrD.cs,4,88,false,true⟩,some ⟨l.map AddrD.cs,4,88,false,true⟩] (.sc (.bo true)) [some ⟨l.map AddrD.cs,4,88,false,true⟩,some ⟨l.map AddrD.cs,4,88,false,true⟩]:=by
 refine qE Tryz.func88 Tryz.ntmps88 Tryz.results88 fun E hE=>?_
 refine an 2 hE (fun s (k:Nat)=>s.at (qU [4,1,6,21]) [(5,.sc (.int .i64 (k:Nat)))] (s.hp)) (fun (k:Nat)=>k≤l.length) (fun (k:Nat)=>l.length - k) 0 (qI 0 2) (qC) (Nat.zero_le _) (af (by rfl) (by rfl) ?_) fun k hk N hN=>?_
 ·exact qY
 refine qR ?_
 refine qB (fun h=>?_) fun h=>?_
 ·refine ar (qU [0,10]) (by kernel_rfl) (trivial) (by kernel_rfl) (aa 400 ?_)
  simp (disch:=omega) only [go_sem,seval]
  refine az (xo l[k]) [] ?_
  refine qG ?_
  exact qN hN (k+1) (qI 0 2) (by (try dsimp only);exact h)
 exact qF (qI 0 2)
theorem vm (l:List HalfD) (hl:l.length≤4611686018427387904):ae Tryz.prog 90 [.sc (.sl 0 0 l.length),.sc (.sl 1 0 l.length)] [some ⟨l.map HalfD.cs,8,213,false,true⟩,some ⟨l.map HalfD.cs,8,213,false,true⟩] (.sc (.bo true)) [some ⟨l.map HalfD.cs,8,213,false,true⟩,some ⟨l.map HalfD.cs,8,213,false,true⟩]:=by
 refine qE Tryz.func90 Tryz.ntmps90 Tryz.results90 fun E hE=>?_
 refine an 2 hE (fun s (k:Nat)=>s.at (qU [4,1,6,21]) [(5,.sc (.int .i64 (k:Nat)))] (s.hp)) (fun (k:Nat)=>k≤l.length) (fun (k:Nat)=>l.length - k) 0 (qI 0 2) (qC) (Nat.zero_le _) (af (by rfl) (by rfl) ?_) fun k hk N hN=>?_
 ·exact qY
 refine qR ?_
 refine qB (fun h=>?_) fun h=>?_
 ·refine ar (qU [0,10]) (by kernel_rfl) (trivial) (by kernel_rfl) (aa 400 ?_)
  simp (disch:=omega) only [go_sem,seval]
  refine az (xq l[k]) [] ?_
  refine qG ?_
  exact qN hN (k+1) (qI 0 2) (by (try dsimp only);exact h)
 exact qF (qI 0 2)
theorem xt (l:List TagD) (hl:l.length≤4611686018427387904):ae Tryz.prog 94 [.sc (.sl 0 0 l.length),.sc (.sl 1 0 l.length)] [some ⟨l.map TagD.cs,5,89,false,true⟩,some ⟨l.map TagD.cs,5,89,false,true⟩] (.sc (.bo true)) [some ⟨l.map TagD.cs,5,89,false,true⟩,some ⟨l.map TagD.cs,5,89,false,true⟩]:=by
 refine qE Tryz.func94 Tryz.ntmps94 Tryz.results94 fun E hE=>?_
 refine an 2 hE (fun s (k:Nat)=>s.at (qU [4,1,6,21]) [(5,.sc (.int .i64 (k:Nat)))] (s.hp)) (fun (k:Nat)=>k≤l.length) (fun (k:Nat)=>l.length - k) 0 (qI 0 2) (qC) (Nat.zero_le _) (af (by rfl) (by rfl) ?_) fun k hk N hN=>?_
 ·exact qY
 refine qR ?_
 refine qB (fun h=>?_) fun h=>?_
 ·refine ar (qU [0,10]) (by kernel_rfl) (trivial) (by kernel_rfl) (aa 400 ?_)
  simp (disch:=omega) only [go_sem,seval]
  refine az (ql l[k]) [] ?_
  refine qG ?_
  exact qN hN (k+1) (qI 0 2) (by (try dsimp only);exact h)
 exact qF (qI 0 2)
theorem ks (l:List LetterD) (hl:l.length≤4611686018427387904):ae Tryz.prog 39 [.sc (.sl 0 0 l.length),.sc (.sl 1 0 l.length)] [some ⟨l.map LetterD.cs,19,91,false,true⟩,some ⟨l.map LetterD.cs,19,91,false,true⟩] (.sc (.bo true)) [some ⟨l.map LetterD.cs,19,91,false,true⟩,some ⟨l.map LetterD.cs,19,91,false,true⟩]:=by
 refine qE Tryz.func39 Tryz.ntmps39 Tryz.results39 fun E hE=>?_
 refine an 2 hE (fun s (k:Nat)=>s.at (qU [4,1,6,21]) [(5,.sc (.int .i64 (k:Nat)))] (s.hp)) (fun (k:Nat)=>k≤l.length) (fun (k:Nat)=>l.length - k) 0 (qI 0 2) (qC) (Nat.zero_le _) (af (by rfl) (by rfl) ?_) fun k hk N hN=>?_
 ·exact qY
 refine qR ?_
 refine qB (fun h=>?_) fun h=>?_
 ·refine ar (qU [0,10]) (by kernel_rfl) (trivial) (by kernel_rfl) (aa 400 ?_)
  simp (disch:=omega) only [go_sem,seval]
  refine az (sO l[k]) [] ?_
  refine qG ?_
  exact qN hN (k+1) (qI 0 2) (by (try dsimp only);exact h)
 exact qF (qI 0 2)
theorem xw (l:List SubD) (hl:l.length≤4611686018427387904):ae Tryz.prog 89 [.sc (.sl 0 0 l.length),.sc (.sl 1 0 l.length)] [some ⟨l.map SubD.cs,10,201,false,true⟩,some ⟨l.map SubD.cs,10,201,false,true⟩] (.sc (.bo true)) [some ⟨l.map SubD.cs,10,201,false,true⟩,some ⟨l.map SubD.cs,10,201,false,true⟩]:=by
 refine qE Tryz.func89 Tryz.ntmps89 Tryz.results89 fun E hE=>?_
 refine an 2 hE (fun s (k:Nat)=>s.at (qU [4,1,6,21]) [(5,.sc (.int .i64 (k:Nat)))] (s.hp)) (fun (k:Nat)=>k≤l.length) (fun (k:Nat)=>l.length - k) 0 (qI 0 2) (qC) (Nat.zero_le _) (af (by rfl) (by rfl) ?_) fun k hk N hN=>?_
 ·exact qY
 refine qR ?_
 refine qB (fun h=>?_) fun h=>?_
 ·refine ar (qU [0,10]) (by kernel_rfl) (trivial) (by kernel_rfl) (aa 400 ?_)
  simp (disch:=omega) only [go_sem,seval]
  refine az (yV l[k]) [] ?_
  refine qG ?_
  exact qN hN (k+1) (qI 0 2) (by (try dsimp only);exact h)
 exact qF (qI 0 2)
theorem sQ (l:List PieceD) (hl:l.length≤4611686018427387904):ae Tryz.prog 195 [.sc (.sl 0 0 l.length),.sc (.sl 1 0 l.length)] [some ⟨l.map PieceD.cs,2,256,false,true⟩,some ⟨l.map PieceD.cs,2,256,false,true⟩] (.sc (.bo true)) [some ⟨l.map PieceD.cs,2,256,false,true⟩,some ⟨l.map PieceD.cs,2,256,false,true⟩]:=by
 refine qE Tryz.func195 Tryz.ntmps195 Tryz.results195 fun E hE=>?_
 refine an 2 hE (fun s (k:Nat)=>s.at (qU [4,1,6,21]) [(5,.sc (.int .i64 (k:Nat)))] (s.hp)) (fun (k:Nat)=>k≤l.length) (fun (k:Nat)=>l.length - k) 0 (qI 0 2) (qC) (Nat.zero_le _) (af (by rfl) (by rfl) ?_) fun k hk N hN=>?_
 ·exact qY
 refine qR ?_
 refine qB (fun h=>?_) fun h=>?_
 ·refine ar (qU [0,10]) (by kernel_rfl) (trivial) (by kernel_rfl) (aa 400 ?_)
  simp (disch:=omega) only [go_sem,seval]
  refine az (vi l[k]) [] ?_
  refine qG ?_
  exact qN hN (k+1) (qI 0 2) (by (try dsimp only);exact h)
 exact qF (qI 0 2)
theorem t6 (l:List ActD) (hl:l.length≤1048576):ae Tryz.prog 11 [.sc (.sl 0 0 l.length)] [some ⟨l.map ActD.cs,28,82,false,true⟩] (.sc (.sl 1 0 l.length)) [some ⟨l.map ActD.cs,28,82,false,true⟩,some ⟨l.map ActD.cs,28,93,true,true⟩]:=by
 refine qE Tryz.func11 Tryz.ntmps11 Tryz.results11 fun E hE=>?_
 refine an 1 hE (fun s (k:Nat)=>s.at (qU [5,17]) [(4,.sc (.int .i64 (k:Nat)))] ([some ⟨l.map ActD.cs,28,82,false,true⟩,some ⟨(l.take k).map ActD.cs++List.replicate (l.length - k) [.int .i64 0,.int .i64 0,.int .i64 0,.int .i64 0,.st [],.int .i64 0,.int .i64 0,.bo false,.bo false,.int .i64 0,.int .i64 0,.int .i64 0,.int .i64 0,.int .i64 0,.int .i64 0,.int .i64 0,.int .i64 0,.int .i64 0,.int .i64 0,.int .i64 0,.int .i64 0,.int .i64 0,.int .i64 0,.int .i64 0,.int .i64 0,.bo false,.int .i64 0,.st []],28,93,true,true⟩])) (fun (k:Nat)=>k≤l.length) (fun (k:Nat)=>l.length - k) 0 (qI 0 2) (qC) (Nat.zero_le _) (af (by rfl) (by rfl) ?_) fun k hk N hN=>?_
 ·try simp (disch:=omega) only [go_sem,seval]
  try simp
 refine qR ?_
 refine qB (fun h=>?_) fun h=>?_
 ·try simp (disch:=omega) only [go_sem,seval,cg h,bi]
  refine qK (dq l[k]) [] ?_
  try simp (disch:=omega) only [go_sem,seval,cg h,bi]
  refine⟨by (try simp (disch:=omega) only [go_sem,List.length_set,seval,bi])<;>omega,hN _ (k+1) (qI 0 2) (by (try dsimp only);exact h) (by (try dsimp only);omega) (af (by rfl) (by rfl) ?_)⟩
  refine qX ?_
  first|exact bW h rfl|(rw [bW h rfl])
 have hk:k=l.length:=by omega
 subst hk
 refine qJ (qI 0 2) ?_
 rw [d9]
theorem aao (l:List ActD) (hl:l.length≤4611686018427387904):ae Tryz.prog 13 [.sc (.sl 0 0 l.length),.sc (.sl 1 0 l.length)] [some ⟨l.map ActD.cs,28,93,false,true⟩,some ⟨l.map ActD.cs,28,93,false,true⟩] (.sc (.bo true)) [some ⟨l.map ActD.cs,28,93,false,true⟩,some ⟨l.map ActD.cs,28,93,false,true⟩]:=by
 refine qE Tryz.func13 Tryz.ntmps13 Tryz.results13 fun E hE=>?_
 refine an 2 hE (fun s (k:Nat)=>s.at (qU [4,1,6,21]) [(5,.sc (.int .i64 (k:Nat)))] (s.hp)) (fun (k:Nat)=>k≤l.length) (fun (k:Nat)=>l.length - k) 0 (qI 0 2) (qC) (Nat.zero_le _) (af (by rfl) (by rfl) ?_) fun k hk N hN=>?_
 ·exact qY
 refine qR ?_
 refine qB (fun h=>?_) fun h=>?_
 ·refine ar (qU [0,10]) (by kernel_rfl) (trivial) (by kernel_rfl) (aa 400 ?_)
  simp (disch:=omega) only [go_sem,seval]
  refine az (aaz l[k]) [] ?_
  refine qG ?_
  exact qN hN (k+1) (qI 0 2) (by (try dsimp only);exact h)
 exact qF (qI 0 2)
end
section
open Go.RowKit
theorem sU (x:PiecesD) (hl0:x.list.length≤4611686018427387904):ae Tryz.prog 93 [.ag (x.cs 0),.ag (x.cs 1)] (x.hp false++x.hp false) (.sc (.bo true)) (x.hp false++x.hp false):=by
 refine qE Tryz.func93 Tryz.ntmps93 Tryz.results93 fun E hE=>?_
 refine qK (sQ x.list hl0) (qI 0 2) ?_
 exact qF (qI 0 2)
theorem vq (x:KnownD) (hl0:x.keys.length≤4611686018427387904) (hl1:x.tags.length≤4611686018427387904):ae Tryz.prog 40 [.ag (x.cs 0),.ag (x.cs 2)] (x.hp false++x.hp false) (.sc (.bo true)) (x.hp false++x.hp false):=by
 refine qE Tryz.func40 Tryz.ntmps40 Tryz.results40 fun E hE=>?_
 refine qK (fH x.keys hl0) (qI 0 1++qI 2 1) ?_
 refine qK (xt x.tags hl1) (qI 1 1++qI 3 1) ?_
 exact qF (qI 0 4)
theorem qq (x:EndD) (hl0:x.own.length≤4611686018427387904) (hl1:x.far.length≤4611686018427387904) (hl2:x.subs.length≤4611686018427387904) (hl3:x.halfs.length≤4611686018427387904) (hl4:x.inp.list.length≤4611686018427387904) (hl5:x.done.length≤4611686018427387904) (hl6:x.over.length≤4611686018427387904):ae Tryz.prog 38 [.ag (x.cs 0),.ag (x.cs 7)] (x.hp false++x.hp false) (.sc (.bo true)) (x.hp false++x.hp false):=by
 refine qE Tryz.func38 Tryz.ntmps38 Tryz.results38 fun E hE=>?_
 refine qK (sL x.policy) [] ?_
 refine qK (mM x.own hl0) (qI 0 1++qI 7 1) ?_
 refine qK (mM x.far hl1) (qI 1 1++qI 8 1) ?_
 refine qK (xw x.subs hl2) (qI 2 1++qI 9 1) ?_
 refine qK (vm x.halfs hl3) (qI 3 1++qI 10 1) ?_
 refine qK (sN x.bucket) [] ?_
 refine qK (yX x.out) [] ?_
 refine qK (sU x.inp hl4) (qI 4 1++qI 11 1) ?_
 refine qK (fH x.done hl5) (qI 5 1++qI 12 1) ?_
 refine qK (fH x.over hl6) (qI 6 1++qI 13 1) ?_
 exact qF (qI 0 14)
end
section
open Go.RowKit
theorem h_ (x:WorldD) (hl0:x.a.own.length≤4611686018427387904) (hl1:x.a.far.length≤4611686018427387904) (hl2:x.a.subs.length≤4611686018427387904) (hl3:x.a.halfs.length≤4611686018427387904) (hl4:x.a.inp.list.length≤4611686018427387904) (hl5:x.a.done.length≤4611686018427387904) (hl6:x.a.over.length≤4611686018427387904) (hl7:x.b.own.length≤4611686018427387904) (hl8:x.b.far.length≤4611686018427387904) (hl9:x.b.subs.length≤4611686018427387904) (hl10:x.b.halfs.length≤4611686018427387904) (hl11:x.b.inp.list.length≤4611686018427387904) (hl12:x.b.done.length≤4611686018427387904) (hl13:x.b.over.length≤4611686018427387904) (hl14:x.bag.length≤4611686018427387904) (hl15:x.past.length≤4611686018427387904) (hl16:x.known.keys.length≤4611686018427387904) (hl17:x.known.tags.length≤4611686018427387904) (hl18:x.nums.length≤4611686018427387904) (hl19:x.answersA.length≤4611686018427387904) (hl20:x.answersB.length≤4611686018427387904):ae Tryz.prog 16 [.ag (x.cs 0),.ag (x.cs 21)] (x.hp false++x.hp false) (.sc (.bo true)) (x.hp false++x.hp false):=by
 refine qE Tryz.func16 Tryz.ntmps16 Tryz.results16 fun E hE=>?_
 refine qK (qq x.a hl0 hl1 hl2 hl3 hl4 hl5 hl6) (qI 0 7++qI 21 7) ?_
 refine qK (qq x.b hl7 hl8 hl9 hl10 hl11 hl12 hl13) (qI 7 7++qI 28 7) ?_
 refine qK (ks x.bag hl14) (qI 14 1++qI 35 1) ?_
 refine qK (ks x.past hl15) (qI 15 1++qI 36 1) ?_
 refine qK (vq x.known hl16 hl17) (qI 16 2++qI 37 2) ?_
 refine qK (fH x.nums hl18) (qI 18 1++qI 39 1) ?_
 refine qK (fH x.answersA hl19) (qI 19 1++qI 40 1) ?_
 refine qK (fH x.answersB hl20) (qI 20 1++qI 41 1) ?_
 exact qF (qI 0 42)
end
section
open Go.RowKit
def oJ (k:Int):List UInt8:=if k≤0 then [109,48] else 109::iP k.toNat []
theorem AU (n:Nat) (acc:List UInt8) (h:0 < n):iP n acc=if n / 10=0 then UInt8.ofNat (48+n % 10)::acc else iP (n / 10) (UInt8.ofNat (48+n % 10)::acc):=by
 rw [iP]
 by_cases h1:n < 10
 ·rw [dif_pos h1,if_pos (by omega),Nat.mod_eq_of_lt h1]
 rw [dif_neg h1,if_neg (by omega)]
theorem ec (k:Int) (hk:k≤4611686018427387904):ae Tryz.prog 41 [.sc (.int .i64 k)] [] (.sc (.st (oJ k))) []:=by
 refine qE Tryz.func41 Tryz.ntmps41 Tryz.results41 fun E hE=>?_
 refine qB (fun h1=>?_) fun h1=>?_
 ·refine qJ [] ?_
  rw [oJ,if_pos h1]
 have hm:oJ k=109::iP k.toNat []:=by rw [oJ,if_neg h1]
 obtain⟨n,rfl⟩:=Int.eq_ofNat_of_zero_le (show 0≤k by omega)
 rw [Int.toNat_natCast] at hm
 refine qX ?_
 refine an 0 hE (fun s (x:Nat×List UInt8)=>s.at (qU [4,14]) [(0,.sc (.int .i64 (x.1:Nat))),(3,.sc (.st x.2))] (s.hp)) (fun (x:Nat×List UInt8)=>x.1≤4611686018427387904∧x.2.length≤20∧(if x.1=0 then x.2 else iP x.1 x.2)=iP n []) (fun (x:Nat×List UInt8)=>x.1) (n,[]) [] (qC) (⟨by omega,by simp,by rw [if_neg (by omega)]⟩) (af (by rfl) (by rfl) ?_) fun x hx N hN=>?_
 ·exact qY
 obtain⟨m,acc⟩:=x
 obtain⟨hx1,hx3,hx4⟩:=hx
 dsimp only at hx1 hx3 hx4
 refine qR ?_
 refine qB (fun h2=>?_) fun h2=>?_
 ·have hb:m % 10 < 10:=Nat.mod_lt _ (by omega)
  have hlt:=Ew m acc
  rw [if_neg (by omega)] at hx4
  have hlen:=Ey (n:=(n:Int)) ⟨by omega,by omega⟩
  rw [Int.natAbs_natCast] at hlen
  rw [hx4] at hlt
  rw [AU m acc (by omega)] at hx4
  try simp (disch:=omega) only [go_sem,seval,nu]
  refine⟨by (try simp (disch:=omega) only [go_sem,List.length_set,seval,j8])<;>omega,hN _ (m / 10,UInt8.ofNat (48+m % 10)::acc) [] (by (try dsimp only);exact⟨by omega,by simp;omega,hx4⟩) (by (try dsimp only);omega) (af (by rfl) (by rfl) ?_)⟩
  refine qX ?_
  first|rfl|(congr 2;omega)|(congr 1;congr 1;omega)|(refine⟨?_,?_⟩<;>first|omega|(congr 2;omega)|(congr 1;congr 1;omega))
 have e:m=0:=by omega
 subst e
 rw [if_pos rfl] at hx4
 refine qJ [] ?_
 rw [hm,←hx4]
 try rfl
theorem ix {α:Type} {f:Int→α} {c k0:Int} {n:Nat}:fj f c k0 (n+1)=fj f c k0 n++[f (k0+c*n)]:=by
 simp [fj,List.range_succ]
theorem jC {α:Type} {f:Int→α} {c k0:Int} {n k:Nat} (h:k < (fj f c k0 n).length):(fj f c k0 n)[k]=f (k0+c*k):=by simp [fj]
theorem gq {α:Type} {l:List α} {k:Nat} (h:k < l.length) (v:α):(l.set k v).take (k+1)=l.take k++[v]:=by
 rw [List.take_succ_eq_append_getElem (by simpa using h),List.getElem_set_self,List.take_set_of_le (Nat.le_refl _)]
def iy (k:Int):Int:=k
theorem bN (l:List Int) (k0:Int) (hl:l.length≤16777216) (h0:0≤k0) (h1:k0≤1099511627776):ae Tryz.prog 20 [.sc (.sl 0 0 l.length),.sc (.int .i64 k0)] [some ⟨l.map aC,1,3,true,true⟩] (.sc (.int .i64 (k0+1*(l.length:Int)))) [some ⟨(fj iy 1 k0 l.length).map aC,1,3,true,true⟩]:=by
 refine qE Tryz.func20 Tryz.ntmps20 Tryz.results20 fun E hE=>?_
 refine an 1 hE (fun s (x:Nat×Int×List Int)=>s.at (qU [6,12]) [(5,.sc (.int .i64 (x.1:Nat))),(1,.sc (.int .i64 x.2.1))] ([some ⟨x.2.2.map aC,1,3,true,true⟩])) (fun (x:Nat×Int×List Int)=>x.1≤l.length∧x.2.2.length=l.length∧x.2.1=k0+1*(x.1:Int)∧x.2.2.take x.1=fj iy 1 k0 x.1) (fun (x:Nat×Int×List Int)=>l.length - x.1) (0,k0,l) (qI 0 1) (qC) (⟨Nat.zero_le _,rfl,by simp,rfl⟩) (af (by rfl) (by rfl) ?_) fun x hx N hN=>?_
 ·exact qY
 obtain⟨i,k,m⟩:=x
 obtain⟨hx1,hx2,hx3,hx4⟩:=hx
 dsimp only at hx1 hx2 hx3 hx4
 refine qR ?_
 refine qB (fun h=>?_) fun h=>?_
 ·have hi:i < m.length:=by omega
  try simp (disch:=omega) only [go_sem,seval,ao hi,dA hi]
  have ht:=gq hi (iy k)
  rw [hx4,hx3,←ix,←hx3] at ht
  refine⟨qC,hN _ (i+1,k+1,m.set i (iy k)) (qI 0 1) (by (try dsimp only);exact⟨by omega,by simp;omega,by omega,ht⟩) (by (try dsimp only);omega) (af (by rfl) (by rfl) ?_)⟩
  try simp (disch:=omega) only [go_sem,seval]
  try exact⟨by omega,bl rfl⟩
  try exact bl rfl
 have e:i=l.length:=by omega
 subst e
 rw [List.take_of_length_le (by omega)] at hx4
 subst hx4
 refine ah (qI 0 1) (qC) _ (by simp only [go_sem];rfl) (by rfl) (by rfl) ?_
 simp (disch:=omega) only [go_sem,seval]
 try exact hx3
 try exact⟨hx3,rfl⟩
theorem ed (k0:Int) (n:Nat) (hl:n≤16777216) (h0:0≤k0) (h1:k0≤1099511627776):ae Tryz.prog 22 [.sc (.sl 0 0 n),.sc (.int .i64 k0)] [some ⟨(fj iy 1 k0 n).map aC,1,3,false,true⟩] (.sc (.int .i64 (k0+1*(n:Int)))) [some ⟨(fj iy 1 k0 n).map aC,1,3,false,true⟩]:=by
 have hg:(fj iy 1 k0 n).length=n:=eK
 refine qE Tryz.func22 Tryz.ntmps22 Tryz.results22 fun E hE=>?_
 refine an 1 hE (fun s (x:Nat×Int)=>s.at (qU [4,1,6,14]) [(5,.sc (.int .i64 (x.1:Nat))),(1,.sc (.int .i64 x.2))] (s.hp)) (fun (x:Nat×Int)=>x.1≤n∧x.2=k0+1*(x.1:Int)) (fun (x:Nat×Int)=>n - x.1) (0,k0) (qI 0 1) (qC) (⟨Nat.zero_le _,by simp⟩) (af (by rfl) (by rfl) ?_) fun x hx N hN=>?_
 ·exact qY
 obtain⟨i,k⟩:=x
 obtain⟨hx1,hx3⟩:=hx
 dsimp only at hx1 hx3
 refine qR ?_
 refine qB (fun h=>?_) fun h=>?_
 ·have hi:i < (fj iy 1 k0 n).length:=by omega
  have he:=jC hi
  rw [←hx3] at he
  try simp (disch:=omega) only [go_sem,seval,ao hi,he,iy]
  refine⟨qC,hN _ (i+1,k+1) (qI 0 1) (by (try dsimp only);exact⟨by omega,by omega⟩) (by (try dsimp only);omega) (af (by rfl) (by rfl) ?_)⟩
  try simp (disch:=omega) only [go_sem,seval]
  try omega
 have e:i=n:=by omega
 subst e
 refine ah (qI 0 1) (qC) _ (by simp only [go_sem];rfl) (by rfl) (by rfl) ?_
 simp (disch:=omega) only [go_sem,seval]
 try exact hx3
end
section
open Go.RowKit
end
section
open Go.RowKit
section
variable {P:Program} {β:Be}
end
end
section
open Go.RowKit
end
section
open Go.RowKit
end
section
open Go.RowKit
end
section
open Go.RowKit
end
section
open Go.RowKit
end
section
open Go.RowKit
end
section
open Go.RowKit
end
section
open Go.RowKit
end
section
open Go.RowKit
end
section
open Go.RowKit
end
section
open Go.RowKit
end
section
open Go.RowKit
end
section
open Go.RowKit
end
section
open Go.RowKit
end
section
open Go.RowKit
end
section
open Go.RowKit
end
section
open Go.RowKit
end
section
open Go.RowKit
end
section
open Go.RowKit
end
section
open Go.RowKit
end
section
open Go.RowKit
end
section
open Go.RowKit
end
section
open Go.RowKit
end
section
open Go.RowKit
end
section
open Go.RowKit
end
section
open Go.RowKit
end
section
open Go.RowKit
end
section
open Go.RowKit
end
section
end
section
open Go.RowKit
end
section
open Go.RowKit
end
section
open Go.RowKit
end
section
open Go.RowKit
end
section
open Go.RowKit
end
section
open Go.RowKit
end
section
open Go.RowKit
end
section
open Go.RowKit
end
section
open Go.RowKit
end
section
open Go.RowKit
end
section
open Go.RowKit
end
section
open Go.RowKit
end
section
open Go.RowKit
end
section
open Go.RowKit
end
section
open Go.RowKit
end
section
open Go.RowKit
end
section
open Go.RowKit
end
section
open Go.RowKit
end
section
open Go.RowKit
end
section
open Go.RowKit
end
section
open Go.RowKit
end
section
open Go.RowKit
end
section
open Go.RowKit
end
section
open Go.RowKit
end
section
open Go.RowKit
end
section
open Go.RowKit
end
section
open Go.RowKit
end
section
open Go.RowKit
end
section
open Go.RowKit
end
section
open Go.RowKit
def r3 (n:Int):List AddrD:=[⟨0,n,false,true⟩]
def e6 (who n:Int) (p:PolicyD):EndD×Bool:=
 if cr who 1 2 && gd p && cw (r3 n) then (⟨who,0,0,0,p,r3 n,[],[],[],⟨1,3,3⟩,⟨[],0,0,120⟩,⟨0,[],[]⟩,[],[],1000+who,0,0⟩,true) else (pu,false)
end
section
open Go.RowKit
def f5:WorldD:=⟨pu,pu,[],[],[],[],[],[],⟨[],[]⟩,[],[],[]⟩
def e7 (p:PolicyD):WorldD×Bool:=
 if (e6 1 11 p).2 && (e6 2 21 p).2 then
  ({ f5 with a:=(r5 (e6 1 11 p).1 (e6 2 21 p).1).1,b:=(r5 (e6 1 11 p).1 (e6 2 21 p).1).2.1,known:=⟨[5,7],[]⟩},true)
 else (f5,false)
end
section
open Go.RowKit
structure CurD where
 i:Nat
 h:Int
def CurD.cs (c:CurD) (b:List UInt8):List Sc:=[.sl 0 0 b.length,.int .i64 (c.i:Nat),.int .i64 c.h]
def CurD.ok (c:CurD) (b:List UInt8):Prop:=c.i≤b.length∧b.length≤1048576
attribute [go_sem] CurD.cs
def aa8 (a b:Int):Int:=IntKind.i64.wrap (BitVec.ofInt 64 a &&& BitVec.ofInt 64 b).toNat
def aa_ (a b:Int):Int:=IntKind.i64.wrap (BitVec.ofInt 64 a ^^^ BitVec.ofInt 64 b).toNat
def CurD.nxt (c:CurD):Int:=IntKind.i64.wrap (IntKind.i64.wrap (c.h*6364136223846793005)+1442695040888963407)
def CurD.x0 (c:CurD):Int:=aa8 (aa_ (c.nxt.fdiv (2 ^ min 33 64)) (c.nxt.fdiv (2 ^ min 45 64))) 255
def CurD.bv (c:CurD) (b:List UInt8):Int:=if h:c.i < b.length then aa8 (IntKind.i64.wrap (c.x0+b[c.i].toNat)) 255 else c.x0
def CurD.bn (c:CurD) (b:List UInt8):CurD:=if c.i < b.length then⟨c.i+1,c.nxt⟩ else⟨c.i,c.nxt⟩
def CurD.below (c:CurD) (b:List UInt8) (n:Int):Int×CurD:=
 if n≤0 then (0,c) else if n≤256 then ((c.bv b).tmod n,(c.bn b)) else ((c.bv b*16777216+(c.bn b).bv b*65536+((c.bn b).bn b).bv b*256+(((c.bn b).bn b).bn b).bv b).tmod n,(((c.bn b).bn b).bn b).bn b)
def CurD.pick (c:CurD) (b:List UInt8) (l:List Int):Int:=l.getD (c.below b l.length).1.toNat 0
end
section
open Go.RowKit
end
section
open Go.RowKit
def eg (s:Int) (p:PolicyD):EndD:=⟨s,0,0,0,p,r3 (10*s+1),[],[],[],⟨1,3,3⟩,⟨[],0,0,120⟩,⟨0,[],[]⟩,[],[],1000+s,0,0⟩
def Z3 (e:EndD):Bool:=decide (e.own.length≤1048576) && decide (e.far.length≤1048576) && decide (e.subs.length≤1048576) && decide (e.halfs.length≤1048576) && decide (e.inp.list.length≤1048576) && decide (e.done.length≤1048576) && decide (e.over.length≤1048576)
theorem t5 {e:EndD} (h:Z3 e=true):Small e:=by
 simp only [Z3,Bool.and_eq_true,decide_eq_true_eq] at h
 exact⟨h.1.1.1.1.1.1,h.1.1.1.1.1.2,h.1.1.1.1.2,h.1.1.1.2,h.1.1.2,h.1.2,h.2⟩
end
section
open Go.RowKit
end
section
open Go.RowKit
end
section
open Go.RowKit
def aba (e:EndD):Prop:=e.subs.length≤100∧e.far.length≤100
end
section
open Go.RowKit
def aan (e:EndD):Bool:=Z3 e && decide (e.inp.list=[]) && decide (e.inp.ready.length=0) && decide (e.out.text.length=0) && decide (e.subs.length≤100) && decide (e.far.length≤100)
theorem ZU {e:EndD} (h:aan e=true):GoodE e∧aba e:=by
 simp only [aan,Bool.and_eq_true,decide_eq_true_eq] at h
 obtain⟨⟨⟨⟨⟨h1,h2⟩,h3⟩,h4⟩,h5⟩,h6⟩:=h
 exact⟨⟨t5 h1,⟨by rw [h2];decide,by omega,fun x hx=>by rw [h2] at hx;simp at hx⟩,by omega⟩,h5,h6⟩
def r2 (x y:EndD):WorldD:=⟨x,y,[],[],[],[],[],[],⟨[5,7],[]⟩,[],[],[]⟩
def startE (x y:EndD):Bool:=aj x && aj y && decide (x.state=2∧y.state=2∧x.side=1∧y.side=2∧x.key=1001∧y.key=1002∧x.peer=1002∧y.peer=1001∧x.draw=1005∧y.draw=1006∧x.now=0∧y.now=0) &&
 decide (x.halfs=[]∧y.halfs=[]∧x.own=r3 11∧y.own=r3 21∧x.far=gp 21∧y.far=gp 11∧x.bucket=⟨1,3,3⟩∧y.bucket=⟨1,3,3⟩) &&
 decide (x.out=⟨[],0,0,120⟩∧y.out=⟨[],0,0,120⟩) && decide (x.inp.read=0∧x.inp.ready=[]∧x.inp.list=[]∧y.inp.read=0∧y.inp.ready=[]∧y.inp.list=[]) &&
 decide (x.subs=[⟨⟨11,21,0⟩,3,false,0,0,1004,1003,0⟩]∧y.subs=[⟨⟨21,11,0⟩,3,false,0,0,1003,1004,0⟩])
structure Start (w:WorldD):Prop where
 e:startE w.a w.b=true
 bag:w.bag=[]
 past:w.past=[]
 keys:w.known.keys=[5,7]
 tags:w.known.tags=[]
 nums:w.nums=[]
 wa:w.wroteA=[]
 wb:w.wroteB=[]
 ra:w.readA=[]
 rb:w.readB=[]
 na:w.answersA=[]
 nb:w.answersB=[]
end
section
open Go.RowKit
def r8:List ActD→WorldD→List Int→WorldD×List Int
 |[],w,cs=>(w,cs)
 |a::l,w,cs=>r8 l (ff w a).1 (cs++[(ff w a).2])
theorem ZV {l:List ActD} {k:Nat} {w:WorldD} {cs:List Int} (h:k < l.length):r8 (l.drop k) w cs=r8 (l.drop (k+1)) (ff w l[k]).1 (cs++[(ff w l[k]).2]):=by
 rw [List.drop_eq_getElem_cons h,r8]
theorem Z7 {l:List ActD} {k:Nat} {w:WorldD} {cs:List Int} (h:l.length≤k):r8 (l.drop k) w cs=(w,cs):=by
 rw [List.drop_eq_nil_of_le h,r8]
theorem ZW {Q:WorldD→Nat→Prop} {P:ActD→Prop} (hQ:∀ w k a,Q w k→P a→Q (ff w a).1 (k+1)):∀ {l:List ActD} {w:WorldD} {cs:List Int} {k:Nat},Q w k→(∀ a∈l,P a)→Q (r8 l w cs).1 (k+l.length)∧(r8 l w cs).2.length=cs.length+l.length
 |[],w,cs,k,h,_=>⟨h,rfl⟩
 |a::l,w,cs,k,h,hl=>by
  have h1:=ZW hQ (l:=l) (cs:=cs++[(ff w a).2]) (hQ w k a h (hl a (by simp))) (fun x hx=>hl x (by simp [hx]))
  rw [r8,List.length_cons]
  refine⟨by rw [show k+(l.length+1)=k+1+l.length by omega];exact h1.1,by rw [h1.2,List.length_append,List.length_singleton];omega⟩
end
section
open Go.RowKit
theorem Z8 (r b:Int):ae Tryz.prog 160 [.sc (.int .i64 r),.sc (.int .i64 b)] [] (.tu [.ag (BucketD.cs (if cP ⟨r,b,b⟩ then⟨r,b,b⟩ else⟨0,0,0⟩)),.sc (.bo (cP ⟨r,b,b⟩))]) []:=by
 obtain⟨R,hR⟩:∃ R,R=(if cP ⟨r,b,b⟩ then (⟨r,b,b⟩:BucketD) else⟨0,0,0⟩):=⟨_,rfl⟩
 rw [←hR]
 refine qE Tryz.func160 Tryz.ntmps160 Tryz.results160 fun E hE=>?_
 refine qK (ja ⟨r,b,b⟩) [] ?_
 refine qB (fun h1=>?_) fun h1=>?_
 ·rw [h1,if_neg (by simp)] at hR
  subst hR
  refine ah [] (qC) _ (by simp only [go_sem];rfl) (by rfl) (by rfl) ?_
  simp (disch:=omega) only [go_sem,seval]
  try exact⟨⟨rfl,rfl,rfl⟩,h1⟩
 rw [h1,if_pos rfl] at hR
 subst hR
 refine ah [] (qC) _ (by simp only [go_sem];rfl) (by rfl) (by rfl) ?_
 simp (disch:=omega) only [go_sem,seval]
 try exact⟨⟨rfl,rfl,rfl⟩,h1⟩
theorem aau (n:Int):bn [] ⟨0,n,false,true⟩=if cw (r3 n) then (r3 n,true) else ([],false):=rfl
theorem aav:cP ⟨1,3,3⟩=true:=by decide
theorem Z9 {who n:Int} {p:PolicyD} (h:(cr who 1 2 && gd p && cw (r3 n))=false):e6 who n p=(pu,false):=by rw [e6,if_neg (by simp [h])]
theorem w9 {who n:Int} {p:PolicyD} (h:(cr who 1 2 && gd p && cw (r3 n))=true):e6 who n p=(⟨who,0,0,0,p,r3 n,[],[],[],⟨1,3,3⟩,⟨[],0,0,120⟩,⟨0,[],[]⟩,[],[],1000+who,0,0⟩,true):=if_pos h
theorem ZX (who n:Int) (p:PolicyD):ae Tryz.prog 71 [.sc (.int .i64 who),.sc (.int .i64 n),.ag p.cs] [] (.tu [.ag ((e6 who n p).1.cs 0),.sc (.bo (e6 who n p).2)]) ((e6 who n p).1.hp true):=by
 have hA:=jH [] ⟨0,n,false,true⟩ (by simp)
 have hB:=Z8 1 3
 rw [aav,if_pos rfl] at hB
 rw [aau] at hA
 have hf:= @Z9 who n p
 have ht:= @w9 who n p
 generalize e6 who n p=R at*
 have hl:(r3 n).length=1:=rfl
 cases hok:cw (r3 n) with
 |false=>
  rw [hok,if_neg (by simp)] at hA
  rw [hf (by simp [hok])]
  refine qE Tryz.func71 Tryz.ntmps71 Tryz.results71 fun E hE=>?_
  refine qK (hA) (qI 2 1) ?_
  refine qK (aM _ _ _) [] ?_
  refine qB (fun h1=>?_) fun h1=>?_
  ·refine qK (lx p) [] ?_
   refine qB (fun h2=>?_) fun h2=>?_
   ·refine qJ [none,none,none,none,none,none,none] ?_
    simp [pu]
   refine qJ [none,none,none,none,none,none,none] ?_
   simp [pu]
  refine qJ [none,none,none,none,none,none,none] ?_
  simp [pu]
 |true=>
  rw [hok,if_pos rfl] at hA
  refine qE Tryz.func71 Tryz.ntmps71 Tryz.results71 fun E hE=>?_
  refine qK (hA) (qI 2 1) ?_
  refine qK (aM _ _ _) [] ?_
  refine qB (fun h1=>?_) fun h1=>?_
  ·refine qK (lx p) [] ?_
   refine qB (fun h2=>?_) fun h2=>?_
   ·rw [ht (by simp [h1,h2,hok])]
    simp only [cr,Bool.and_eq_true,decide_eq_true_eq] at h1
    refine qX ?_
    refine qK (hB) [] ?_
    exact qF (qI 3 1++qO 6)
   rw [hf (by simp [h2])]
   refine qX ?_
   refine qJ [none,none,none,none,none,none,none] ?_
   simp [pu]
  rw [hf (by simp [h1])]
  refine qJ [none,none,none,none,none,none,none] ?_
  simp [pu]
theorem aaJ {e:EndD} {n:Int} (h:ZO e n=false):r4 e n=(e,[]):=by rw [r4,if_neg (by simp [h])]
theorem aaK {e:EndD} {n:Int} {a:AddrD} (h:ZO e n=true) (ha:e.own.getD 0 default=a):r4 e n=({ e with state:=1,key:=e.draw,subs:=e.subs++[⟨⟨a.addr,n,0⟩,1,false,0,0,0,e.draw+2,0⟩],draw:=e.draw+4 },
  [bc ⟨a.addr,n,0⟩ { aw with kind:=1,key:=e.draw,give:=e.draw+2 }]):=by rw [r4,if_pos h,t7,ha]
theorem aaQ (e:EndD) (n:Int) (hs:Small e):ae Tryz.prog 178 [.ag (e.cs 0),.sc (.int .i64 n)] (e.hp false) (.tu [.ag ((r4 e n).1.cs 7),.sc (.sl 14 0 (r4 e n).2.length)])
  (e.hp false++((r4 e n).1.hp true++[some ⟨(r4 e n).2.map LetterD.cs,19,91,true,true⟩])):=by
 have hC:=(qH (aK e))
 have hK:=(qH (bf e))
 have hf:=aaJ (e:=e) (n:=n)
 have ht:= @aaK e n
 have hk:=ZO.eq_1 e n
 have hS:=fun r=>eI e r (by have:=hs.subs;omega)
 rw [t7] at hk
 generalize r4 e n=R at*
 refine qE Tryz.func178 Tryz.ntmps178 Tryz.results178 fun E hE=>?_
 refine qK (hC) (qI 0 7) ?_
 refine qK (hK) (qI 0 7) ?_
 refine qB (fun h1=>?_) fun h1=>?_
 ·refine qB (fun h2=>?_) fun h2=>?_
  ·refine qB (fun h3=>?_) fun h3=>?_
   ·refine qK (aO _ _ _) [] ?_
    refine qB (fun h4=>?_) fun h4=>?_
    ·refine qB (fun h5=>?_) fun h5=>?_
     ·refine qK (fk e) (qI 0 7) ?_
      refine qB (fun h6=>?_) fun h6=>?_
      ·rw [hf (by rw [hk];first|(simp [h6];done)|(simp [h6];intros;omega))]
       exact qF (qI 0 7++qI 9 7++qO 1)
      obtain⟨a,ha⟩:∃ a,e.own[0]'(by omega)=a:=⟨_,rfl⟩
      have ha2:e.own.getD 0 default=a:=by rw [←ha,List.getD_eq_getElem?_getD,List.getElem?_eq_getElem (by omega)];rfl
      rw [ha2] at hk
      try simp (disch:=omega) only [go_sem,seval,ha]
      refine qK (hS ⟨a.addr,n,0⟩) (qI 0 7) ?_
      refine qB (fun h7=>?_) fun h7=>?_
      ·rw [hf (by rw [hk];first|(simp [h7];done)|(simp [h7];intros;omega))]
       exact qF (qI 0 7++qI 9 7++qO 1)
      rw [ht (a:=a) (by rw [hk,h1,h4,h6,decide_eq_true (by omega:e.state=0),decide_eq_false (by omega:¬ e.own.length=0),decide_eq_true (by have:=dr h1;omega:e.subs.length < 8),decide_eq_true (by omega:bO e.subs ⟨a.addr,n,0⟩< 0)];rfl) ha2]
      refine qK (f6 e h6) (qI 9 8) ?_
      refine aT [(6,7)] [(qU [0,9]),[0,1,2,3,4,5,7,6,8]] (by kernel_rfl) (qC) (by kernel_rfl) ?_
      simp only [aQ]
      refine⟨aa 400 ?_,aa 400 ?_⟩
      all_goals simp (disch:=omega) only [go_sem,seval]
      all_goals
       refine az (bg ⟨a.addr,n,0⟩ { aw with kind:=1,key:=e.draw,give:=e.draw+2 }) [] ?_
       refine qG ?_
       refine ah (qI 0 7++qI 9 2++qI 19 1++qI 12 4++qI 20 1) (qC) _ (by simp only [go_sem];rfl) (by rfl) (by rfl) ?_
       simp (disch:=omega) only [go_sem,seval]
       try simp [SubD.cs,LetterD.cs,bc,aw]
     rw [hf (by rw [hk];first|(simp [h5];done)|(simp [h5];intros;omega))]
     exact qF (qI 0 7++qI 9 7++qO 1)
    rw [hf (by rw [hk];first|(simp [h4];done)|(simp [h4];intros;omega))]
    exact qF (qI 0 7++qI 9 7++qO 1)
   rw [hf (by rw [hk,decide_eq_true (by omega:e.own.length=0)];simp)]
   exact qF (qI 0 7++qI 9 7++qO 1)
  rw [hf (by rw [hk];first|(simp [h2];done)|(simp [h2];intros;omega))]
  exact qF (qI 0 7++qI 9 7++qO 1)
 rw [hf (by rw [hk];first|(simp [h1];done)|(simp [h1];intros;omega))]
 exact qF (qI 0 7++qI 9 7++qO 1)
theorem aaR (e:EndD) (n:Int) (hs:Small e):ae Tryz.prog 161 [.ag (e.cs 0),.sc (.int .i64 n)] (e.hp false) (.tu [.ag ((r4 e n).1.cs 7),.sc (.sl 14 0 (r4 e n).2.length)])
  (e.hp false++((r4 e n).1.hp true++[some ⟨(r4 e n).2.map LetterD.cs,19,91,true,true⟩])):=by
 have hC:=(qH (aD e))
 have hK:=(qH (be e))
 have hf:=aaJ (e:=e) (n:=n)
 have ht:= @aaK e n
 have hk:=ZO.eq_1 e n
 have hS:=fun r=>eJ e r (by have:=hs.subs;omega)
 rw [t7] at hk
 generalize r4 e n=R at*
 refine qE Tryz.func161 Tryz.ntmps161 Tryz.results161 fun E hE=>?_
 refine qK (hC) (qI 0 7) ?_
 refine qD [0,1,2,3,4,5,6,7,8,9,10,11,12,13,14,15,16,17,18,19,20,21,22,23,24,25,26,27,28,29,30,31,32,33,34,35,36,37,38,39,40,41] ?_
 refine az (hK) (qI 0 7) ?_
 refine qB (fun h1=>?_) fun h1=>?_
 ·refine qB (fun h2=>?_) fun h2=>?_
  ·refine qB (fun h3=>?_) fun h3=>?_
   ·refine az (aM _ _ _) [] ?_
    refine qB (fun h4=>?_) fun h4=>?_
    ·obtain⟨a,ha⟩:∃ a,e.own[0]'(by omega)=a:=⟨_,rfl⟩
     have ha2:e.own.getD 0 default=a:=by rw [←ha,List.getD_eq_getElem?_getD,List.getElem?_eq_getElem (by omega)];rfl
     rw [ha2] at hk
     try simp (disch:=omega) only [go_sem,seval,ha]
     refine az (hS ⟨a.addr,n,0⟩) (qI 0 7) ?_
     refine qB (fun h7=>?_) fun h7=>?_
     ·refine qB (fun h5=>?_) fun h5=>?_
      ·refine az (gD e) (qI 0 7) ?_
       refine qG ?_
       refine qB (fun h6=>?_) fun h6=>?_
       ·rw [hf (by rw [hk];first|(simp [h6];done)|(simp [h6];intros;omega))]
        exact qF (qI 0 7++qI 9 7++qI 17 1)
       rw [ht (a:=a) (by rw [hk,h1,h4,h6,decide_eq_true (by omega:e.state=0),decide_eq_false (by omega:¬ e.own.length=0),decide_eq_true (by have:=dr h1;omega:e.subs.length < 8),decide_eq_true (by omega:bO e.subs ⟨a.addr,n,0⟩< 0)];rfl) ha2]
       have h8':=h6
       simp only [cr,Bool.and_eq_true,decide_eq_true_eq] at h8'
       have hd1:cr e.draw 1 999999998=true:=by simp only [cr,Bool.and_eq_true,decide_eq_true_eq];omega
       have hd2:cr (e.draw+2) 1 999999998=true:=by simp only [cr,Bool.and_eq_true,decide_eq_true_eq];omega
       refine qK (cO e hs hd1) (qI 9 7) ?_
       refine qK (cO { e with draw:=e.draw+2 } ⟨hs.own,hs.far,hs.subs,hs.halfs,hs.list,hs.done,hs.over⟩ hd2) (qI 18 7) ?_
       try simp (disch:=omega) only [go_sem,seval,ha]
       refine qK (iU { e with state:=1,key:=e.draw,draw:=e.draw+2+2 } ⟨⟨a.addr,n,0⟩,1,false,0,0,0,e.draw+2,0⟩ (by have:=dr h1;dsimp only;omega)) (qI 25 7) ?_
       refine aT [(0,9),(7,0),(8,0)] [(qU [1,8,0,1,9,3]),(qU [1,7,0,1,8,4]),(qU [1,6,0,1,7,5]),(qU [1,9,0,1,10,2])] (by kernel_rfl) (qC) (by kernel_rfl) ?_
       simp only [aQ]
       refine⟨aa 400 ?_,aa 400 ?_,aa 400 ?_,aa 400 ?_⟩
       all_goals simp (disch:=omega) only [go_sem,seval]
       all_goals
        refine az (aX ⟨a.addr,n,0⟩ { aw with kind:=1,key:=e.draw,give:=e.draw+2 }) [] ?_
        refine qG ?_
        refine ah (qI 0 7++qI 25 2++qI 33 1++qI 28 4++qI 35 1) (qC) _ (by simp only [go_sem];rfl) (by rfl) (by rfl) ?_
        simp (disch:=omega) only [go_sem,seval]
        try simp [SubD.cs,LetterD.cs,bc,aw]
        try omega
      rw [hf (by rw [hk];first|(simp [h5];done)|(simp [h5];intros;omega))]
      refine qG ?_
      exact qF (qI 0 7++qI 9 7++qI 17 1)
     rw [hf (by rw [hk];first|(simp [h7];done)|(simp [h7];intros;omega))]
     refine qG ?_
     exact qF (qI 0 7++qI 9 7++qI 17 1)
    rw [hf (by rw [hk];first|(simp [h4];done)|(simp [h4];intros;omega))]
    refine qG ?_
    exact qF (qI 0 7++qI 9 7++qI 17 1)
   rw [hf (by rw [hk,decide_eq_true (by omega:e.own.length=0)];simp)]
   refine qG ?_
   exact qF (qI 0 7++qI 9 7++qI 17 1)
  rw [hf (by rw [hk];first|(simp [h2];done)|(simp [h2];intros;omega))]
  refine qG ?_
  exact qF (qI 0 7++qI 9 7++qI 17 1)
 rw [hf (by rw [hk];first|(simp [h1];done)|(simp [h1];intros;omega))]
 refine qG ?_
 exact qF (qI 0 7++qI 9 7++qI 17 1)
end
section
open Go.RowKit
def ad (a:EndD) (y:LetterD):EndD:=(cf a y).1
theorem aa1 {a b:EndD} (h:b.own.length=0):r5 a b=(a,b,false):=if_pos h
theorem aa2 {a b:EndD} {h:AddrD} {x:EndD} {L:List LetterD} (hn:¬ b.own.length=0) (hb:b.own.getD 0 default=h) (ho:r4 a h.addr=(x,L)):r5 a b=((r7 x L b).1,(r7 x L b).2,Z1 (r7 x L b).1 (r7 x L b).2):=by
 rw [r5,if_neg hn,hb,ho]
theorem aai (a:EndD) (n:Int):(r4 a n).2.length≤1:=by rw [r4];split<;>simp
theorem ZY {a:EndD} {n:Int} (hs:Small a):Small (r4 a n).1:=by
 rw [r4];split
 ·rename_i h
  simp only [ZO,Bool.and_eq_true,decide_eq_true_eq] at h
  exact⟨hs.own,hs.far,by simp only [List.length_append,List.length_singleton];omega,hs.halfs,hs.list,hs.done,hs.over⟩
 exact hs
theorem ZZ {e:EndD} {x:LetterD} (hs:Small e):Small (bX e x).1:=by
 rw [bX];split
 ·rename_i h
  simp only [kR,Bool.and_eq_true,decide_eq_true_eq] at h
  exact⟨hs.own,by simp [gp],by simp only [List.length_append,List.length_singleton];omega,hs.halfs,hs.list,hs.done,hs.over⟩
 exact hs
theorem Z_ {e:EndD} {x:LetterD} (hs:Small e):Small (cf e x).1:=by
 rw [cf];split
 ·exact⟨hs.own,by simp [gp],by simpa only [List.length_set] using hs.subs,hs.halfs,hs.list,hs.done,hs.over⟩
 exact hs
theorem aaj {e:EndD} {x:LetterD}:(bX e x).2.length≤1:=by rw [bX];split<;>simp
theorem aaw {x y:EndD} {l:List LetterD} {k:Nat} (h:k < l.length):r7 x (l.drop k) y=r7 ((bX y l[k]).2.foldl ad x) (l.drop (k+1)) (bX y l[k]).1:=by
 rw [List.drop_eq_getElem_cons h];rfl
theorem aaF {x y:EndD} {l:List LetterD} {k:Nat} (h:l.length≤k):r7 x (l.drop k) y=(x,y):=by
 rw [List.drop_eq_nil_of_le h];rfl
theorem aaa {x:EndD} {l:List LetterD} {k:Nat} (h:k < l.length):(l.drop k).foldl ad x=(l.drop (k+1)).foldl ad (cf x l[k]).1:=by
 rw [List.drop_eq_getElem_cons h];rfl
theorem aak {x:EndD} {l:List LetterD} {k:Nat} (h:l.length≤k):(l.drop k).foldl ad x=x:=by
 rw [List.drop_eq_nil_of_le h];rfl
theorem aaG (x:EndD) (l:LetterD) (b:EndD):r7 x [l] b=((bX b l).2.foldl ad x,(bX b l).1):=rfl
theorem aa3 {x b y X Y:EndD} {L bk:List LetterD} {k:Nat} (hXY:r7 x L b=(X,Y)) (hL:L.length≤1) (hk:L.length≤k) (f1:k≤L.length) (f4:(k=0∧y=b∧bk=[])∨(k=1∧L.length=1∧∀ h:0 < L.length,(y,bk)=bX b L[0])):bk.foldl ad x=X∧y=Y:=by
 refine f4.elim (fun h=>?_) (fun h=>?_)
 ·have:L=[]:=List.eq_nil_of_length_eq_zero (by have:=h.1;omega)
  subst this
  rw [h.2.1,h.2.2]
  exact⟨congrArg Prod.fst hXY,congrArg Prod.snd hXY⟩
 have hl:=List.length_eq_one_iff.1 h.2.1
 refine hl.elim fun l hl=>?_
 subst hl
 have h2:=h.2.2 (by simp)
 simp only [List.getElem_cons_zero] at h2
 rw [aaG,←h2] at hXY
 exact⟨congrArg Prod.fst hXY,congrArg Prod.snd hXY⟩
theorem aab (x y:EndD):(x.state≠2∧Z1 x y=false)∨(x.state=2∧y.state≠2∧Z1 x y=false)∨(x.state=2∧y.state=2∧x.peer≠y.key∧Z1 x y=false)∨(x.state=2∧y.state=2∧x.peer=y.key∧y.peer≠x.key∧Z1 x y=false)∨(x.state=2∧y.state=2∧x.peer=y.key∧y.peer=x.key∧Z1 x y=true):=by
 by_cases h1:x.state=2
 ·by_cases h2:y.state=2
  ·by_cases h3:x.peer=y.key
   ·by_cases h4:y.peer=x.key
    ·simp [Z1,h1,h2,h3,h4]
    simp [Z1,h1,h2,h3,h4]
   simp [Z1,h1,h2,h3]
  simp [Z1,h1,h2]
 simp [Z1,h1]
theorem aaS (a b:EndD) (ha:Small a) (hb:Small b):ae Tryz.prog 79 [.ag (a.cs 0),.ag (b.cs 7)] (a.hp false++b.hp false) (.tu [.ag ((r5 a b).1.cs 14),.ag ((r5 a b).2.1.cs 21),.sc (.bo (r5 a b).2.2)])
  (a.hp false++(b.hp false++((r5 a b).1.hp true++(r5 a b).2.1.hp true))):=by
 have hCa:=aK a (by have:=ha.own;omega) (by have:=ha.far;omega) (by have:=ha.subs;omega) (by have:=ha.halfs;omega) (by have:=ha.list;omega) (by have:=ha.done;omega) (by have:=ha.over;omega)
 have hCb:=aK b (by have:=hb.own;omega) (by have:=hb.far;omega) (by have:=hb.subs;omega) (by have:=hb.halfs;omega) (by have:=hb.list;omega) (by have:=hb.done;omega) (by have:=hb.over;omega)
 have h0:= @aa1 a b
 have ht:= @aa2 a b
 have hbo:=hb.own
 obtain⟨R,hR⟩:∃ R,R=r5 a b:=⟨_,rfl⟩
 rw [←hR] at h0 ht⊢
 clear hR
 refine ga Tryz.func79 Tryz.ntmps79 Tryz.results79 fun E hE=>?_
 refine qB (fun h1=>?_) fun h1=>?_
 ·rw [h0 (by omega)]
  refine qD [0,2,1,3,4,5,6] ?_
  refine az (hCa) (qI 0 7) ?_
  refine az (hCb) (qI 7 7) ?_
  refine qG ?_
  exact cc (qI 0 14++qI 18 14)
 obtain⟨d,hd⟩:∃ d,b.own[0]'(by omega)=d:=⟨_,rfl⟩
 have hd2:b.own.getD 0 default=d:=by rw [←hd,List.getD_eq_getElem?_getD,List.getElem?_eq_getElem (by omega)];rfl
 have hO:=aaQ a d.addr ha
 have hx1:=aai a d.addr
 have hxs:=ZY (n:=d.addr) ha
 obtain⟨P,hP⟩:∃ P,P=r4 a d.addr:=⟨_,rfl⟩
 rw [←hP] at hO hx1 hxs
 obtain⟨x,L⟩:=P
 dsimp only at hO hx1 hxs
 have ht:=ht (by omega) hd2 hP.symm
 clear hP
 obtain⟨X,Y,hXY⟩:∃ X Y,r7 x L b=(X,Y):=⟨_,_,rfl⟩
 rw [hXY] at ht
 dsimp only at ht
 subst ht
 refine qX ?_
 refine aI [(6,10)] [] [(qU [0,13]),(qU [0,6,10,1,6,4,11,2])] 14 hE (fun s=>s.at (qU [26,10]) [(7,.sc (.pt 26 0 0)),(8,.sc (.sl 25 0 L.length))] (s.hp++(x.hp true++[some ⟨L.map LetterD.cs,19,91,true,true⟩,some ⟨[EndD.cs x 18],25,45,true,false⟩]))) (by kernel_rfl) (qC) (by kernel_rfl) ?_ (ac 400 ?_)
 rotate_left
 rotate_right
 simp only [aQ]
 refine⟨aa 400 ?_,aa 400 ?_⟩
 ·try simp (disch:=omega) only [go_sem,seval,hd]
  refine az (hO) (qI 0 7) ?_
  refine⟨qC,(qI 0 27),ab (by rfl) (by rfl) ?_⟩
  try simp (disch:=omega) only [go_sem,seval]
 ·try simp (disch:=omega) only [go_sem,seval,hd]
  refine az (hO) (qI 0 7) ?_
  refine⟨qC,(qI 0 18++qI 19 8++qI 18 1),ab (by rfl) (by rfl) ?_⟩
  try simp (disch:=omega) only [go_sem,seval]
 refine qX ?_
 refine qK (hCb) (qI 7 7) ?_
 refine qX ?_
 refine cE 14 hE (fun s (y:Nat×EndD×EndD)=>s.at (qU [0,4,8,1,11,3,15,23,41,25]) [(40,.sc (.int .i64 (y.1:Nat)))] ((s.hp.take 18)++(y.2.1.hp true++(((s.hp.drop 25).take 1)++(some ⟨[EndD.cs y.2.1 18],25,45,true,false⟩::(y.2.2.hp true++[some ⟨[EndD.cs y.2.2 27],25,45,true,false⟩])))))) (fun (y:Nat×EndD×EndD)=>y.1≤L.length∧Small y.2.1∧Small y.2.2∧r7 y.2.1 (L.drop y.1) y.2.2=(X,Y)) (fun (y:Nat×EndD×EndD)=>L.length - y.1) (0,x,b) (qI 0 35) (qC) (⟨Nat.zero_le _,hxs,hb,hXY⟩) (ab (by rfl) (by rfl) ?_) fun y hy N hN=>?_
 ·exact qY
 obtain⟨k,u,y⟩:=y
 obtain⟨f1,f2,f3,f4⟩:=hy
 dsimp only at f1 f2 f3 f4
 refine qR ?_
 refine qB (fun b1=>?_) fun b1=>?_
 ·have hgl:=ao (enc:=LetterD.cs) b1
  rw [aaw b1] at f4
  have hH:=qs y L[k] f3
  have hHs:=ZZ (x:=L[k]) f3
  have hH1:=aaj (e:=y) (x:=L[k])
  generalize hl0:L[k]=l0 at*
  obtain⟨Q,hQ⟩:∃ Q,Q=bX y l0:=⟨_,rfl⟩
  rw [←hQ] at hH hHs hH1 f4
  obtain⟨y1,bk⟩:=Q
  dsimp only at hH hHs hH1 f4
  try simp (disch:=omega) only [go_sem,seval,hl0]
  refine qK (hH) (qI 27 7) ?_
  refine qX ?_
  refine cE 14 hE (fun s (z:Nat×EndD)=>s.at (qU [0,4,8,1,15,23,42,9,54,12]) [(53,.sc (.int .i64 (z.1:Nat)))] ((s.hp.take 18)++(z.2.hp true++(((s.hp.drop 25).take 1)++(some ⟨[EndD.cs z.2 18],25,45,true,false⟩::s.hp.drop 27))))) (fun (z:Nat×EndD)=>z.1≤bk.length∧Small z.2∧(bk.drop z.1).foldl ad z.2=bk.foldl ad u) (fun (z:Nat×EndD)=>bk.length - z.1) (0,u) (qI 0 45) (qC) (⟨Nat.zero_le _,f2,rfl⟩) (ab (by rfl) (by rfl) ?_) fun z hz N2 hN2=>?_
  ·exact qY
  obtain⟨j,v⟩:=z
  obtain⟨q1,q2,q3⟩:=hz
  dsimp only at q1 q2 q3
  refine qR ?_
  refine qB (fun b2=>?_) fun b2=>?_
  ·have hgm:=ao (enc:=LetterD.cs) b2
   rw [aaa b2] at q3
   have hB:=s_ v bk[j] q2
   have hBs:=Z_ (x:=bk[j]) q2
   generalize hm0:bk[j]=m at*
   obtain⟨Q,hQ⟩:∃ Q,Q=cf v m:=⟨_,rfl⟩
   rw [←hQ] at hB hBs q3
   try simp (disch:=omega) only [go_sem,seval,hm0]
   refine qK (hB) (qI 18 7) ?_
   refine qX ?_
   exact UH hN2 (j+1,Q.1) (qI 0 18++qI 46 7++qI 25 20) (by (try dsimp only);exact⟨by omega,hBs,q3⟩)
  rw [aak (by omega)] at q3
  rw [←q3] at f4
  refine qX ?_
  exact UH hN (k+1,v,y1) (qI 0 27++qI 36 7++qI 34 1) (by (try dsimp only);exact⟨by omega,q2,hHs,f4⟩)
 rw [aaF (by omega)] at f4
 simp only [Prod.mk.injEq] at f4
 obtain⟨rfl,rfl⟩:=f4
 rcases aab u y with⟨c1,hm⟩|⟨c1,c2,hm⟩|⟨c1,c2,c3,hm⟩|⟨c1,c2,c3,c4,hm⟩|⟨c1,c2,c3,c4,hm⟩
 all_goals
  rw [hm]
  refine qX ?_
  refine aT [(1,24),(19,24),(19,25),(21,24),(21,25)] [(qU [0,1,2,17,20,1,1,1,19,1,21,6]),(qU [0,1,2,17,20,1,1,1,19,1,24,1,21,3,25,2]),(qU [0,1,2,17,20,1,1,1,19,1,24,2,21,3,26,1]),(qU [0,1,2,17,20,1,1,1,21,1,24,1,19,1,22,2,25,2]),(qU [0,1,2,17,20,1,1,1,24,1,19,1,21,3,25,2]),(qU [0,1,2,17,20,1,1,1,24,1,19,1,25,1,21,3,26,1]),(qU [0,1,2,17,20,1,1,1,21,1,24,2,19,1,22,2,26,1]),(qU [0,1,2,17,20,1,1,1,24,1,21,1,25,1,19,1,22,2,26,1]),(qU [0,1,2,17,20,1,1,1,24,2,19,1,21,3,26,1]),(qU [0,1,2,17,20,1,19,1,21,4,1,1,25,2]),(qU [0,1,2,17,20,1,19,1,24,1,1,1,21,3,25,2]),(qU [0,1,2,17,20,1,19,1,24,1,1,1,25,1,21,3,26,1]),(qU [0,1,2,17,20,2,24,1,1,1,19,1,22,2,25,2]),(qU [0,1,2,17,20,1,24,1,1,1,19,1,21,3,25,2]),(qU [0,1,2,17,20,1,24,1,1,1,19,1,25,1,21,3,26,1]),(qU [0,1,2,17,20,2,24,1,1,1,25,1,19,1,22,2,26,1]),(qU [0,1,2,17,20,1,24,1,1,1,21,1,25,1,19,1,22,2,26,1]),(qU [0,1,2,17,20,1,24,1,1,1,25,1,19,1,21,3,26,1])] (by kernel_rfl) (qC) (by kernel_rfl) ?_
  simp only [aQ]
  refine⟨aa 400 ?_,aa 400 ?_,aa 400 ?_,aa 400 ?_,aa 400 ?_,aa 400 ?_,aa 400 ?_,aa 400 ?_,aa 400 ?_,aa 400 ?_,aa 400 ?_,aa 400 ?_,aa 400 ?_,aa 400 ?_,aa 400 ?_,aa 400 ?_,aa 400 ?_,aa 400 ?_⟩
  all_goals simp (disch:=omega) only [go_sem,seval]
  all_goals
   refine qG ?_
   exact cc (qI 0 14++qI 18 7++qI 27 7)
theorem aaT (a b:EndD) (ha:Small a) (hb:Small b):ae Tryz.prog 72 [.ag (a.cs 0),.ag (b.cs 7)] (a.hp false++b.hp false) (.tu [.ag ((r5 a b).1.cs 14),.ag ((r5 a b).2.1.cs 21),.sc (.bo (r5 a b).2.2)])
  (a.hp false++(b.hp false++((r5 a b).1.hp true++(r5 a b).2.1.hp true))):=by
 have hCa:=aD a (by have:=ha.own;omega) (by have:=ha.far;omega) (by have:=ha.subs;omega) (by have:=ha.halfs;omega) (by have:=ha.list;omega) (by have:=ha.done;omega) (by have:=ha.over;omega)
 have hCb:=aD b (by have:=hb.own;omega) (by have:=hb.far;omega) (by have:=hb.subs;omega) (by have:=hb.halfs;omega) (by have:=hb.list;omega) (by have:=hb.done;omega) (by have:=hb.over;omega)
 have h0:= @aa1 a b
 have ht:= @aa2 a b
 have hbo:=hb.own
 obtain⟨R,hR⟩:∃ R,R=r5 a b:=⟨_,rfl⟩
 rw [←hR] at h0 ht⊢
 clear hR
 refine ga Tryz.func72 Tryz.ntmps72 Tryz.results72 fun E hE=>?_
 refine qB (fun h1=>?_) fun h1=>?_
 ·rw [h0 (by omega)]
  refine qD [0,2,1,3,4,5,6] ?_
  refine az (hCa) (qI 0 7) ?_
  refine az (hCb) (qI 7 7) ?_
  refine qG ?_
  exact cc (qI 0 14++qI 18 14)
 obtain⟨d,hd⟩:∃ d,b.own[0]'(by omega)=d:=⟨_,rfl⟩
 have hd2:b.own.getD 0 default=d:=by rw [←hd,List.getD_eq_getElem?_getD,List.getElem?_eq_getElem (by omega)];rfl
 have hO:=aaR a d.addr ha
 have hx1:=aai a d.addr
 have hxs:=ZY (n:=d.addr) ha
 obtain⟨P,hP⟩:∃ P,P=r4 a d.addr:=⟨_,rfl⟩
 rw [←hP] at hO hx1 hxs
 obtain⟨x,L⟩:=P
 dsimp only at hO hx1 hxs
 have ht:=ht (by omega) hd2 hP.symm
 clear hP
 obtain⟨X,Y,hXY⟩:∃ X Y,r7 x L b=(X,Y):=⟨_,_,rfl⟩
 rw [hXY] at ht
 dsimp only at ht
 subst ht
 refine qX ?_
 refine aI [(6,10)] [] [(qU [0,13]),(qU [0,6,10,1,6,4,11,2])] 14 hE (fun s=>s.at (qU [21,10]) [(7,.sc (.pt 26 0 0)),(8,.sc (.sl 25 0 L.length))] (s.hp++(x.hp true++[some ⟨L.map LetterD.cs,19,91,true,true⟩,some ⟨[EndD.cs x 18],25,45,true,false⟩]))) (by kernel_rfl) (qC) (by kernel_rfl) ?_ (ac 400 ?_)
 rotate_left
 rotate_right
 simp only [aQ]
 refine⟨aa 400 ?_,aa 400 ?_⟩
 ·try simp (disch:=omega) only [go_sem,seval,hd]
  refine az (hO) (qI 0 7) ?_
  refine⟨qC,(qI 0 27),ab (by rfl) (by rfl) ?_⟩
  try simp (disch:=omega) only [go_sem,seval]
 ·try simp (disch:=omega) only [go_sem,seval,hd]
  refine az (hO) (qI 0 7) ?_
  refine⟨qC,(qI 0 18++qI 19 8++qI 18 1),ab (by rfl) (by rfl) ?_⟩
  try simp (disch:=omega) only [go_sem,seval]
 refine qX ?_
 refine qK (hCb) (qI 7 7) ?_
 refine cE 14 hE (fun s (y:Nat×EndD×List LetterD)=>s.at (qU [0,3,13,36]) [(11,.sc (.int .i64 (y.1:Nat))),(10,.sc (.sl 35 0 y.2.2.length))] ((s.hp.take 27)++(y.2.1.hp true++[some ⟨[EndD.cs y.2.1 27],25,45,true,false⟩,some ⟨y.2.2.map LetterD.cs,19,91,true,true⟩]))) (fun (y:Nat×EndD×List LetterD)=>y.1≤L.length∧Small y.2.1∧y.2.2.length≤1∧((y.1=0∧y.2.1=b∧y.2.2=[])∨(y.1=1∧L.length=1∧∀ h:0 < L.length,y.2=bX b L[0]))) (fun (y:Nat×EndD×List LetterD)=>L.length - y.1) (0,b,[]) (qI 0 36) (qC) (⟨Nat.zero_le _,hb,by simp,.inl ⟨rfl,rfl,rfl⟩⟩) (ab (by rfl) (by rfl) ?_) fun y hy N hN=>?_
 ·exact qY
 obtain⟨k,y,bk⟩:=y
 obtain⟨f1,f2,f3,f4⟩:=hy
 dsimp only at f1 f2 f3 f4
 refine qR ?_
 refine qB (fun b1=>?_) fun b1=>?_
 ·have hgl:=ao (enc:=LetterD.cs) b1
  obtain rfl:k=0:=by omega
  have hH:=qt b L[0] hb
  have hHs:=ZZ (x:=L[0]) hb
  have hH1:=aaj (e:=b) (x:=L[0])
  generalize hl0:L[0]=l0 at*
  obtain⟨Q,hQ⟩:∃ Q,Q=bX b l0:=⟨_,rfl⟩
  rw [←hQ] at hH hHs hH1
  try simp (disch:=omega) only [go_sem,seval,hl0]
  refine qD [0,1,2,3,4,5,6,7,8,9,10] ?_
  try simp (disch:=omega) only [go_sem,seval,hl0]
  refine az (hH) (qI 7 7) ?_
  refine qG ?_
  exact UH hN (1,Q.1,Q.2) (qI 0 27++qI 36 7++qI 34 1++qI 43 1) (by (try dsimp only);exact⟨by omega,hHs,hH1,.inr ⟨rfl,by omega,fun h=>by rw [hl0,←hQ]⟩⟩)
 obtain⟨g1,g2⟩:=aa3 hXY hx1 (show L.length≤k by omega) f1 f4
 subst g2
 clear f4 f1
 refine qX ?_
 refine cE 14 hE (fun s (z:Nat×EndD)=>s.at (qU [0,4,8,1,11,1,13,51]) [(12,.sc (.int .i64 (z.1:Nat)))] ((s.hp.take 18)++(z.2.hp true++(((s.hp.drop 25).take 1)++(some ⟨[EndD.cs z.2 18],25,45,true,false⟩::s.hp.drop 27))))) (fun (z:Nat×EndD)=>z.1≤bk.length∧Small z.2∧(bk.drop z.1).foldl ad z.2=X) (fun (z:Nat×EndD)=>bk.length - z.1) (0,x) (qI 0 36) (qC) (⟨Nat.zero_le _,hxs,g1⟩) (ab (by rfl) (by rfl) ?_) fun z hz N2 hN2=>?_
 ·exact qY
 obtain⟨j,u⟩:=z
 obtain⟨q1,q2,q3⟩:=hz
 dsimp only at q1 q2 q3
 refine qR ?_
 refine qB (fun b2=>?_) fun b2=>?_
 ·have hgm:=ao (enc:=LetterD.cs) b2
  rw [aaa b2] at q3
  have hB:=ta u bk[j] q2
  have hBs:=Z_ (x:=bk[j]) q2
  generalize hm0:bk[j]=m at*
  obtain⟨Q,hQ⟩:∃ Q,Q=cf u m:=⟨_,rfl⟩
  rw [←hQ] at hB hBs q3
  try simp (disch:=omega) only [go_sem,seval,hm0]
  refine qD [0,1,2,3,4,5,6,7,8,9] ?_
  try simp (disch:=omega) only [go_sem,seval,hm0]
  refine az (hB) (qI 18 7) ?_
  refine qG ?_
  exact UH hN2 (j+1,Q.1) (qI 0 18++qI 36 7++qI 25 11) (by (try dsimp only);exact⟨by omega,hBs,q3⟩)
 rw [aak (by omega)] at q3
 subst q3
 rcases aab u y with⟨c1,hm⟩|⟨c1,c2,hm⟩|⟨c1,c2,c3,hm⟩|⟨c1,c2,c3,c4,hm⟩|⟨c1,c2,c3,c4,hm⟩
 all_goals
  rw [hm]
  refine qX ?_
  refine aT [(1,24),(19,24),(19,25),(21,24),(21,25)] [(qU [0,1,2,17,20,1,1,1,19,1,21,6]),(qU [0,1,2,17,20,1,1,1,19,1,24,1,21,3,25,2]),(qU [0,1,2,17,20,1,1,1,19,1,24,2,21,3,26,1]),(qU [0,1,2,17,20,1,1,1,21,1,24,1,19,1,22,2,25,2]),(qU [0,1,2,17,20,1,1,1,24,1,19,1,21,3,25,2]),(qU [0,1,2,17,20,1,1,1,24,1,19,1,25,1,21,3,26,1]),(qU [0,1,2,17,20,1,1,1,21,1,24,2,19,1,22,2,26,1]),(qU [0,1,2,17,20,1,1,1,24,1,21,1,25,1,19,1,22,2,26,1]),(qU [0,1,2,17,20,1,1,1,24,2,19,1,21,3,26,1]),(qU [0,1,2,17,20,1,19,1,21,4,1,1,25,2]),(qU [0,1,2,17,20,1,19,1,24,1,1,1,21,3,25,2]),(qU [0,1,2,17,20,1,19,1,24,1,1,1,25,1,21,3,26,1]),(qU [0,1,2,17,20,2,24,1,1,1,19,1,22,2,25,2]),(qU [0,1,2,17,20,1,24,1,1,1,19,1,21,3,25,2]),(qU [0,1,2,17,20,1,24,1,1,1,19,1,25,1,21,3,26,1]),(qU [0,1,2,17,20,2,24,1,1,1,25,1,19,1,22,2,26,1]),(qU [0,1,2,17,20,1,24,1,1,1,21,1,25,1,19,1,22,2,26,1]),(qU [0,1,2,17,20,1,24,1,1,1,25,1,19,1,21,3,26,1])] (by kernel_rfl) (qC) (by kernel_rfl) ?_
  simp only [aQ]
  refine⟨aa 400 ?_,aa 400 ?_,aa 400 ?_,aa 400 ?_,aa 400 ?_,aa 400 ?_,aa 400 ?_,aa 400 ?_,aa 400 ?_,aa 400 ?_,aa 400 ?_,aa 400 ?_,aa 400 ?_,aa 400 ?_,aa 400 ?_,aa 400 ?_,aa 400 ?_,aa 400 ?_⟩
  all_goals simp (disch:=omega) only [go_sem,seval]
  all_goals
   refine qG ?_
   exact cc (qI 0 14++qI 18 7++qI 27 7)
end
section
open Go.RowKit
theorem Z0 (who n:Int) (p:PolicyD):ae Tryz.prog 78 [.sc (.int .i64 who),.sc (.int .i64 n),.ag p.cs] [] (.tu [.ag ((e6 who n p).1.cs 0),.sc (.bo (e6 who n p).2)]) ((e6 who n p).1.hp true):=by
 have hA:=jz (r3 n) (by simp [r3])
 have hB:=Z2 1 3
 rw [aav,if_pos rfl] at hB
 have hf:= @Z9 who n p
 have ht:= @w9 who n p
 have hl:(r3 n).length=1:=rfl
 have hcs:(r3 n).map AddrD.cs=[AddrD.cs ⟨0,n,false,true⟩]:=rfl
 rw [hl,hcs] at hA
 generalize e6 who n p=R at*
 refine qE Tryz.func78 Tryz.ntmps78 Tryz.results78 fun E hE=>?_
 refine qK (aO _ _ _) [] ?_
 refine qB (fun h1=>?_) fun h1=>?_
 ·refine qK (lw p) [] ?_
  refine qB (fun h2=>?_) fun h2=>?_
  ·refine qK (hA) (qI 2 1) ?_
   refine qB (fun h3=>?_) fun h3=>?_
   ·rw [hf (by simp [h3])]
    refine qJ [none,none,none,none,none,none,none] ?_
    simp [pu]
   rw [ht (by simp [h1,h2,h3])]
   simp only [cr,Bool.and_eq_true,decide_eq_true_eq] at h1
   refine qX ?_
   refine qK (hB) [] ?_
   refine ah (qI 2 1++qO 6) (qC) _ (by simp only [go_sem];rfl) (by rfl) (by rfl) ?_
   simp (disch:=omega) only [go_sem,seval]
   try simp [r3,AddrD.cs]
  rw [hf (by simp [h2])]
  refine qX ?_
  refine qJ [none,none,none,none,none,none,none] ?_
  simp [pu]
 rw [hf (by simp [h1])]
 refine qX ?_
 refine qJ [none,none,none,none,none,none,none] ?_
 simp [pu]
end
section
open Go.RowKit
def aa9:List PolicyD:=[⟨1,0⟩,⟨3,0⟩,⟨2,1⟩,⟨2,2⟩,⟨2,3⟩,⟨2,4⟩,⟨2,5⟩,⟨2,6⟩,⟨2,7⟩,⟨2,8⟩]
theorem ZP {p:PolicyD} (h:gd p=true):p∈aa9:=by
 obtain⟨k,m⟩:=p
 rw [gd] at h
 dsimp only at h
 split at h
 ·rename_i hk
  subst hk
  simp only [cr,Bool.and_eq_true,decide_eq_true_eq] at h
  have:m=1∨m=2∨m=3∨m=4∨m=5∨m=6∨m=7∨m=8:=by omega
  rcases this with rfl|rfl|rfl|rfl|rfl|rfl|rfl|rfl<;>decide
 simp only [Bool.and_eq_true,Bool.or_eq_true,beq_iff_eq] at h
 obtain⟨h1,rfl⟩:=h
 rcases h1 with rfl|rfl<;>decide
theorem aa4:(aa9.all fun p=>startE (r5 (eg 1 p) (eg 2 p)).1 (r5 (eg 1 p) (eg 2 p)).2.1 && Z3 (eg 1 p) && Z3 (eg 2 p) && aan (r5 (eg 1 p) (eg 2 p)).1 && aan (r5 (eg 1 p) (eg 2 p)).2.1)=true:=by decide+kernel
theorem t4 {s:Int} {p:PolicyD} (hs:s=1∨s=2) (hp:gd p=true):e6 s (10*s+1) p=(eg s p,true):=by
 rcases hs with rfl|rfl
 ·exact w9 (by rw [hp];decide)
 exact w9 (by rw [hp];decide)
theorem w5 {s n:Int} {p:PolicyD} (hp:gd p=false):e6 s n p=(pu,false):=Z9 (by rw [hp];simp)
theorem r6 {p:PolicyD} (hp:gd p=true):e7 p=(r2 (r5 (eg 1 p) (eg 2 p)).1 (r5 (eg 1 p) (eg 2 p)).2.1,true):=by
 have h1:=t4 (s:=1) (.inl rfl) hp
 have h2:=t4 (s:=2) (.inr rfl) hp
 rw [show (10*1+1:Int)=11 from rfl] at h1
 rw [show (10*2+1:Int)=21 from rfl] at h2
 rw [e7,h1,h2]
 rfl
theorem t9 {p:PolicyD} (hp:gd p=false):e7 p=(f5,false):=by
 rw [e7,w5 hp,w5 hp]
 rfl
structure World0 (w:WorldD):Prop where
 g:GoodW w 0
 s:Start w
theorem ZQ {p:PolicyD} (hp:gd p=true):World0 (e7 p).1:=by
 have hm:=List.all_eq_true.1 aa4 p (ZP hp)
 simp only [Bool.and_eq_true] at hm
 obtain⟨⟨⟨⟨m0,m1⟩,m2⟩,m3⟩,m4⟩:=hm
 obtain⟨g1,f1⟩:=ZU m3
 obtain⟨g2,f2⟩:=ZU m4
 rw [r6 hp]
 exact⟨⟨g1,g2,⟨by simp [r2],by simp [r2],by simp [r2],by simp [r2],by simp [r2],by simp [r2],by simp [r2]⟩,by simp [r2],by simp [r2],by simp [r2],by simp [r2]⟩,⟨m0,rfl,rfl,rfl,rfl,rfl,rfl,rfl,rfl,rfl,rfl,rfl⟩⟩
def e5 (p:PolicyD) (l:List ActD):WorldD×List Int:=if gd p=true∧l.length≤120 then r8 l (e7 p).1 [] else (f5,[])
theorem aae (p:PolicyD):ae Tryz.prog 35 [.ag p.cs] [] (.tu [.ag ((e7 p).1.cs 0),.sc (.bo (e7 p).2)]) ((e7 p).1.hp true):=by
 have h1:=Z0 1 11 p
 have h2:=Z0 2 21 p
 cases hp:gd p with
 |false=>
  rw [t9 hp]
  rw [w5 hp] at h1 h2
  dsimp only at h1 h2⊢
  refine qE Tryz.func35 Tryz.ntmps35 Tryz.results35 fun E hE=>?_
  refine qK (h1) [] ?_
  refine qK (h2) [] ?_
  refine qJ [none,none,none,none,none,none,none,none,none,none,none,none,none,none,none,none,none,none,none,none,none] ?_
  simp [f5,pu]
 |true=>
  have i1:=t4 (s:=1) (.inl rfl) hp
  have i2:=t4 (s:=2) (.inr rfl) hp
  rw [show (10*1+1:Int)=11 from rfl] at i1
  rw [show (10*2+1:Int)=21 from rfl] at i2
  rw [i1] at h1
  rw [i2] at h2
  have hm:=List.all_eq_true.1 aa4 p (ZP hp)
  simp only [Bool.and_eq_true] at hm
  obtain⟨⟨⟨⟨_,m1⟩,m2⟩,_⟩,_⟩:=hm
  have hM:=aaS (eg 1 p) (eg 2 p) (t5 m1) (t5 m2)
  rw [r6 hp]
  clear i1 i2 m1 m2
  generalize eg 1 p=a at*
  generalize eg 2 p=c at*
  obtain⟨M,hMM⟩:∃ M,M=r5 a c:=⟨_,rfl⟩
  rw [←hMM] at hM⊢
  clear hMM
  obtain⟨X,Y,ok⟩:=M
  dsimp only at hM⊢
  refine qE Tryz.func35 Tryz.ntmps35 Tryz.results35 fun E hE=>?_
  refine qK (h1) [] ?_
  refine qK (h2) [] ?_
  refine qK (hM) (qI 2 7++qI 10 7) ?_
  refine ah (qI 20 14++qO 2++qI 18 1++qO 4) (qC) _ (by simp only [go_sem];rfl) (by rfl) (by rfl) ?_
  simp (disch:=omega) only [go_sem,seval]
  try simp [r2,aC]
theorem aaf (p:PolicyD):ae Tryz.prog 33 [.ag p.cs] [] (.tu [.ag ((e7 p).1.cs 0),.sc (.bo (e7 p).2)]) ((e7 p).1.hp true):=by
 have h1:=ZX 1 11 p
 have h2:=ZX 2 21 p
 cases hp:gd p with
 |false=>
  rw [t9 hp]
  rw [w5 hp] at h1 h2
  dsimp only at h1 h2⊢
  refine qE Tryz.func33 Tryz.ntmps33 Tryz.results33 fun E hE=>?_
  refine qK (h1) [] ?_
  refine qK (h2) [] ?_
  refine qJ [none,none,none,none,none,none,none,none,none,none,none,none,none,none,none,none,none,none,none,none,none] ?_
  simp [f5,pu]
 |true=>
  have i1:=t4 (s:=1) (.inl rfl) hp
  have i2:=t4 (s:=2) (.inr rfl) hp
  rw [show (10*1+1:Int)=11 from rfl] at i1
  rw [show (10*2+1:Int)=21 from rfl] at i2
  rw [i1] at h1
  rw [i2] at h2
  have hm:=List.all_eq_true.1 aa4 p (ZP hp)
  simp only [Bool.and_eq_true] at hm
  obtain⟨⟨⟨⟨_,m1⟩,m2⟩,_⟩,_⟩:=hm
  have hM:=aaT (eg 1 p) (eg 2 p) (t5 m1) (t5 m2)
  rw [r6 hp]
  clear i1 i2 m1 m2
  generalize eg 1 p=a at*
  generalize eg 2 p=c at*
  obtain⟨M,hMM⟩:∃ M,M=r5 a c:=⟨_,rfl⟩
  rw [←hMM] at hM⊢
  clear hMM
  obtain⟨X,Y,ok⟩:=M
  dsimp only at hM⊢
  refine qE Tryz.func33 Tryz.ntmps33 Tryz.results33 fun E hE=>?_
  refine qK (h1) [] ?_
  refine qK (h2) [] ?_
  refine qK (hM) (qI 2 7++qI 10 7) ?_
  refine ah (qI 20 14++qO 2++qI 18 1++qO 4) (qC) _ (by simp only [go_sem];rfl) (by rfl) (by rfl) ?_
  simp (disch:=omega) only [go_sem,seval]
  try simp [r2,aC]
theorem aaH (p:PolicyD) (l:List ActD) (hl:l.length≤1048576) (ha:∀ a∈l,a.text.length≤1048576):ae Tryz.prog 15 [.ag p.cs,.sc (.sl 0 0 l.length)] [some ⟨l.map ActD.cs,28,93,false,true⟩]
  (.tu [.ag ((e5 p l).1.cs 1),.sc (.sl 22 0 (e5 p l).2.length)]) ([some ⟨l.map ActD.cs,28,93,false,true⟩]++((e5 p l).1.hp true++[some ⟨(e5 p l).2.map aC,1,3,true,true⟩])):=by
 have hW:=aae p
 by_cases hp:gd p=true
 ·have h0:=(ZQ hp).g
  rw [r6 hp] at hW h0
  dsimp only at hW h0
  by_cases h120:l.length≤120
  ·obtain⟨R,hR⟩:∃ R,R=e5 p l:=⟨_,rfl⟩
   rw [←hR]
   rw [e5,if_pos ⟨hp,h120⟩,r6 hp] at hR
   dsimp only at hR
   generalize r2 (r5 (eg 1 p) (eg 2 p)).1 (r5 (eg 1 p) (eg 2 p)).2.1=w0 at hW h0 hR
   refine ga Tryz.func15 Tryz.ntmps15 Tryz.results15 fun E hE=>?_
   refine qK (hW) [] ?_
   refine cE 1 hE (fun s (y:Nat×WorldD×List Int)=>s.at (qU [0,3,7,1,10,16,29,15]) [(28,.sc (.int .i64 (y.1:Nat))),(8,.sc (.sl 25 0 y.2.2.length))] ((s.hp.take 3)++(y.2.1.hp true++[some ⟨[WorldD.cs y.2.1 3],61,51,true,false⟩,some ⟨y.2.2.map aC,1,3,true,true⟩]))) (fun (y:Nat×WorldD×List Int)=>y.1≤l.length∧GoodW y.2.1 y.1∧y.2.2.length=y.1∧r8 (l.drop y.1) y.2.1 y.2.2=R) (fun (y:Nat×WorldD×List Int)=>l.length - y.1) (0,w0,[]) (qI 0 25++qO 1) (qC) (⟨Nat.zero_le _,h0,rfl,hR.symm⟩) (ab (by rfl) (by rfl) ?_) fun y hy N hN=>?_
   ·exact qY
   obtain⟨k,w,cs⟩:=y
   obtain⟨f1,f2,f3,f4⟩:=hy
   dsimp only at f1 f2 f3 f4
   refine qR ?_
   refine qB (fun h=>?_) fun h=>?_
   ·rw [ZV h] at f4
    have hak:=ha l[k] (List.getElem_mem h)
    have hD:=Bi w l[k] (f2.d (by omega))
    have hG:=w7 f2 (a:=l[k]) hak
    generalize hx:l[k]=x at*
    obtain⟨Q,hQ⟩:∃ Q,Q=ff w x:=⟨_,rfl⟩
    rw [←hQ] at hD hG f4
    try simp (disch:=omega) only [go_sem,seval,hx]
    refine qK (hD) (qI 3 21) ?_
    refine⟨qC,hN _ (k+1,Q.1,cs++[Q.2]) (qI 0 3++qI 27 21++qI 24 1++qI 50 1) (by (try dsimp only);exact⟨by omega,hG,by simp [f3],f4⟩) (by (try dsimp only);omega) (ab (by rfl) (by rfl) ?_)⟩
    try simp (disch:=omega) only [go_sem,seval]
    try simp [aC]
   rw [Z7 (by omega)] at f4
   subst f4
   refine qX ?_
   exact cc (qI 0 1++qI 3 21++qI 25 1)
  rw [e5,if_neg (fun hc=>h120 hc.2)]
  dsimp only
  generalize r2 (r5 (eg 1 p) (eg 2 p)).1 (r5 (eg 1 p) (eg 2 p)).2.1=w0 at hW h0
  refine ga Tryz.func15 Tryz.ntmps15 Tryz.results15 fun E hE=>?_
  refine qK (hW) [] ?_
  refine aA (qI 0 1++qO 22) (qC) _ (by simp only [go_sem];rfl) (by rfl) (by rfl) ?_
  simp (disch:=omega) only [go_sem,seval]
  try simp [f5,pu]
 have hp:gd p=false:=by simpa using hp
 rw [t9 hp] at hW
 dsimp only at hW
 rw [e5,if_neg (fun hc=>by rw [hp] at hc;cases hc.1)]
 dsimp only
 refine ga Tryz.func15 Tryz.ntmps15 Tryz.results15 fun E hE=>?_
 refine qK (hW) [] ?_
 refine aA (qI 0 1++qO 22) (qC) _ (by simp only [go_sem];rfl) (by rfl) (by rfl) ?_
 simp (disch:=omega) only [go_sem,seval]
 try simp [f5,pu]
theorem aaI (p:PolicyD) (l:List ActD) (hl:l.length≤1048576) (ha:∀ a∈l,a.text.length≤1048576):ae Tryz.prog 14 [.ag p.cs,.sc (.sl 0 0 l.length)] [some ⟨l.map ActD.cs,28,93,false,true⟩]
  (.tu [.ag ((e5 p l).1.cs 1),.sc (.sl 22 0 (e5 p l).2.length)]) ([some ⟨l.map ActD.cs,28,93,false,true⟩]++((e5 p l).1.hp true++[some ⟨(e5 p l).2.map aC,1,3,true,true⟩])):=by
 have hW:=aaf p
 by_cases hp:gd p=true
 ·have h0:=(ZQ hp).g
  rw [r6 hp] at hW h0
  dsimp only at hW h0
  by_cases h120:l.length≤120
  ·obtain⟨R,hR⟩:∃ R,R=e5 p l:=⟨_,rfl⟩
   rw [←hR]
   rw [e5,if_pos ⟨hp,h120⟩,r6 hp] at hR
   dsimp only at hR
   generalize r2 (r5 (eg 1 p) (eg 2 p)).1 (r5 (eg 1 p) (eg 2 p)).2.1=w0 at hW h0 hR
   refine ga Tryz.func14 Tryz.ntmps14 Tryz.results14 fun E hE=>?_
   refine qK (hW) [] ?_
   refine cE 1 hE (fun s (y:Nat×WorldD×List Int)=>s.at (qU [0,1,2,1,7,1,10,35]) [(9,.sc (.int .i64 (y.1:Nat))),(8,.sc (.sl 25 0 y.2.2.length))] ((s.hp.take 3)++(y.2.1.hp true++[some ⟨[WorldD.cs y.2.1 3],61,51,true,false⟩,some ⟨y.2.2.map aC,1,3,true,true⟩]))) (fun (y:Nat×WorldD×List Int)=>y.1≤l.length∧GoodW y.2.1 y.1∧y.2.2.length=y.1∧r8 (l.drop y.1) y.2.1 y.2.2=R) (fun (y:Nat×WorldD×List Int)=>l.length - y.1) (0,w0,[]) (qI 0 26) (qC) (⟨Nat.zero_le _,h0,rfl,hR.symm⟩) (ab (by rfl) (by rfl) ?_) fun y hy N hN=>?_
   ·exact qY
   obtain⟨k,w,cs⟩:=y
   obtain⟨f1,f2,f3,f4⟩:=hy
   dsimp only at f1 f2 f3 f4
   refine qR ?_
   refine qB (fun h=>?_) fun h=>?_
   ·rw [ZV h] at f4
    have hak:=ha l[k] (List.getElem_mem h)
    have hD:=Bj w l[k] (f2.d (by omega))
    have hG:=w7 f2 (a:=l[k]) hak
    generalize hx:l[k]=x at*
    obtain⟨Q,hQ⟩:∃ Q,Q=ff w x:=⟨_,rfl⟩
    rw [←hQ] at hD hG f4
    try simp (disch:=omega) only [go_sem,seval,hx]
    refine qD [0,1,2,3,4,5,6,7,8,9,10] ?_
    try simp (disch:=omega) only [go_sem,seval,hx]
    refine az (hD) (qI 3 21) ?_
    refine qG ?_
    refine⟨qC,hN _ (k+1,Q.1,cs++[Q.2]) (qI 0 3++qI 26 21++qI 24 1++qI 48 1) (by (try dsimp only);exact⟨by omega,hG,by simp [f3],f4⟩) (by (try dsimp only);omega) (ab (by rfl) (by rfl) ?_)⟩
    try simp (disch:=omega) only [go_sem,seval]
    try simp [aC]
   rw [Z7 (by omega)] at f4
   subst f4
   refine qX ?_
   exact cc (qI 0 1++qI 3 21++qI 25 1)
  rw [e5,if_neg (fun hc=>h120 hc.2)]
  dsimp only
  generalize r2 (r5 (eg 1 p) (eg 2 p)).1 (r5 (eg 1 p) (eg 2 p)).2.1=w0 at hW h0
  refine ga Tryz.func14 Tryz.ntmps14 Tryz.results14 fun E hE=>?_
  refine qK (hW) [] ?_
  refine aA (qI 0 1++qO 21++qI 25 1) (qC) _ (by simp only [go_sem];rfl) (by rfl) (by rfl) ?_
  simp (disch:=omega) only [go_sem,seval]
  try simp [f5,pu]
 have hp:gd p=false:=by simpa using hp
 rw [t9 hp] at hW
 dsimp only at hW
 rw [e5,if_neg (fun hc=>by rw [hp] at hc;cases hc.1)]
 dsimp only
 refine ga Tryz.func14 Tryz.ntmps14 Tryz.results14 fun E hE=>?_
 refine qK (hW) [] ?_
 refine aA (qI 0 1++qO 21++qI 25 1) (qC) _ (by simp only [go_sem];rfl) (by rfl) (by rfl) ?_
 simp (disch:=omega) only [go_sem,seval]
 try simp [f5,pu]
end
section
open Go.RowKit
def ic (x:ActD):List Int:=[(x.text.length:Int),(x.letter.text.length:Int)]
theorem rM (x:ActD):∀ n∈ic x,0≤n:=by
 intro n hn
 simp only [ic,List.mem_cons,List.not_mem_nil,or_false] at hn
 rcases hn with rfl|rfl<;>omega
theorem ActD.wf_texts {x:ActD} (h:x.wf):x.text.length≤9223372036854775807∧x.letter.text.length≤9223372036854775807:=by
 have h1:=h.2.2.2.2.1
 have h2:=h.2.2.2.2.2.2.2.2.2.2.2.2.2.2.2.2.2.2.2.2.2.2.2.2
 simp only [maxLen] at h1 h2
 omega
theorem zi (x:ActD) (m:Int) (hx:x.wf) (h0:0≤m) (h:m≤1048576):ae Tryz.prog 24 [.ag x.cs,.sc (.int .i64 m)] [] (.sc (.int .i64 (aU m (ic x)))) []:=by
 obtain⟨w1,w2⟩:=ActD.wf_texts hx
 obtain⟨R,hR⟩:∃ R,R=aU m (ic x):=⟨_,rfl⟩
 rw [←hR]
 simp only [aU,ic] at hR
 refine qE Tryz.func24 Tryz.ntmps24 Tryz.results24 fun E hE=>?_
 refine qB (fun h1=>?_) fun h1=>?_
 ·refine qJ [] ?_
  omega
 rw [if_neg (by omega)] at hR
 have hL:=lA x.letter (m - x.text.length) w2 (by omega) (by omega)
 rw [show aU (m - x.text.length) [(x.letter.text.length:Int)]=R from by rw [hR];rfl] at hL
 refine qX ?_
 refine qK (hL) [] ?_
 refine qB (fun h2=>?_) fun h2=>?_
 ·refine qJ [] ?_
  have:=bL (m:=m - x.text.length) (by omega) (a:=[(x.letter.text.length:Int)]) (by simp) (by rw [hR];rfl:aU (m - x.text.length) [(x.letter.text.length:Int)]=R)
  omega
 exact qF []
end
section
open Go.RowKit
def r9 (l:List ActD):List Int:=(l.length:Int)::l.flatMap ic
theorem aac (l:List ActD):∀ n∈r9 l,0≤n:=by
 intro n hn
 simp only [r9,List.mem_cons,List.mem_flatMap] at hn
 rcases hn with rfl|⟨a,_,h⟩
 ·omega
 exact rM a n h
theorem aaU {l:List ActD} {k:Nat} (h:k < l.length):(l.drop k).flatMap ic=ic l[k]++(l.drop (k+1)).flatMap ic:=by
 rw [List.drop_eq_getElem_cons h,List.flatMap_cons]
theorem aaV {l:List ActD} {m r:Int} (hm0:0≤m) (hm:m≤1048576) (h:aU m (r9 l)=r) (h0:0≤r):l.length≤1048576∧∀ a∈l,a.text.length≤1048576:=by
 have k:=fc hm0 (aac l) (by rw [h];exact h0)
 have k1:=k (l.length:Int) (by simp [r9])
 refine⟨by omega,fun a ha=>?_⟩
 have k2:=k (a.text.length:Int) (by
  simp only [r9,List.mem_cons,List.mem_flatMap]
  exact .inr ⟨a,ha,by simp [ic]⟩)
 omega
theorem aax (l:List ActD) (m:Int) (hw:∀ y∈l,y.wf) (hl:l.length≤9223372036854775807) (h0:0≤m) (h:m≤1048576):ae Tryz.prog 8 [.sc (.sl 0 0 l.length),.sc (.int .i64 m)] [some ⟨l.map ActD.cs,28,82,false,true⟩] (.sc (.int .i64 (aU m (r9 l)))) [some ⟨l.map ActD.cs,28,82,false,true⟩]:=by
 obtain⟨R,hR⟩:∃ R,R=aU m (r9 l):=⟨_,rfl⟩
 rw [←hR]
 simp only [aU,r9] at hR
 refine qE Tryz.func8 Tryz.ntmps8 Tryz.results8 fun E hE=>?_
 refine qB (fun h1=>?_) fun h1=>?_
 ·refine qJ (qI 0 1) ?_
  omega
 rw [if_neg (by omega)] at hR
 have hs:R=aU (m - l.length) ((l.drop 0).flatMap ic):=hR
 refine an 1 hE (fun s (x:Nat×Int)=>s.at (qU [4,1,6,20]) [(5,.sc (.int .i64 (x.1:Nat))),(1,.sc (.int .i64 x.2))] (s.hp)) (fun (x:Nat×Int)=>x.1≤l.length∧0≤x.2∧x.2≤1048576∧R=aU x.2 ((l.drop x.1).flatMap ic)) (fun (x:Nat×Int)=>l.length - x.1) (0,m - l.length) (qI 0 1) (qC) (⟨Nat.zero_le _,by omega,by omega,hs⟩) (af (by rfl) (by rfl) ?_) fun x hx N hN=>?_
 ·exact qY
 obtain⟨k,r⟩:=x
 obtain⟨hk1,hk2,hk3,hk4⟩:=hx
 dsimp only at hk1 hk2 hk3 hk4
 refine qR ?_
 refine qB (fun h2=>?_) fun h2=>?_
 ·rw [aaU h2] at hk4
  have hS:=zi l[k] r (hw _ (List.getElem_mem h2)) hk2 hk3
  generalize hg:aU r (ic l[k])=g at hS
  have hb:=bL hk2 (rM l[k]) hg
  refine qK (hS) [] ?_
  by_cases h3:g < 0
  ·rw [bI hk2 hg h3] at hk4
   refine qX ?_
   refine ah (qI 0 1) (qC) _ (by simp only [go_sem];rfl) (by rfl) (by rfl) ?_
   simp (disch:=omega) only [go_sem,seval]
   try omega
  rw [bJ hk2 hg h3] at hk4
  refine qX ?_
  exact qN hN (k+1,g) (qI 0 1) (by (try dsimp only);exact⟨by omega,by omega,by omega,hk4⟩)
 refine qJ (qI 0 1) ?_
 rw [List.drop_eq_nil_of_le (by omega)] at hk4
 exact hk4.symm
theorem aag (l:List ActD) (k0:Int) (hl:l.length≤16777216) (h0:0≤k0) (h1:k0≤1099511627776):ae Tryz.prog 18 [.sc (.sl 0 0 l.length),.sc (.int .i64 k0)] [some ⟨l.map ActD.cs,28,93,true,true⟩] (.sc (.int .i64 (k0+28*(l.length:Int)))) [none]:=by
 refine qE Tryz.func18 Tryz.ntmps18 Tryz.results18 fun E hE=>?_
 refine an 1 hE (fun s (x:Nat×Int×List ActD)=>s.at (qU [6,238]) [(5,.sc (.int .i64 (x.1:Nat))),(1,.sc (.int .i64 x.2.1))] ([some ⟨x.2.2.map ActD.cs,28,93,true,true⟩])) (fun (x:Nat×Int×List ActD)=>x.1≤l.length∧x.2.2.length=l.length∧x.2.1=k0+28*(x.1:Int)) (fun (x:Nat×Int×List ActD)=>l.length - x.1) (0,k0,l) (qI 0 1) (qC) (⟨Nat.zero_le _,rfl,by simp⟩) (af (by rfl) (by rfl) ?_) fun x hx N hN=>?_
 ·exact qY
 obtain⟨i,k,m⟩:=x
 obtain⟨hx1,hx2,hx3⟩:=hx
 dsimp only at hx1 hx2 hx3
 refine qR ?_
 refine qB (fun h=>?_) fun h=>?_
 ·have hi:i < m.length:=by omega
  try simp (disch:=omega) only [go_sem,seval,ao hi,dA hi]
  refine qK (ec (k+1+1+1+1) (by omega)) [] ?_
  refine qK (ec (k+1+1+1+1+1+1+1+1+1+1+1+1+1+1+1+1+1+1+1+1+1+1+1+1+1+1+1) (by omega)) [] ?_
  refine⟨qC,hN _ (i+1,k+1+1+1+1+1+1+1+1+1+1+1+1+1+1+1+1+1+1+1+1+1+1+1+1+1+1+1+1,m.set i (⟨k,k+1,k+1+1,k+1+1+1,oJ (k+1+1+1+1),⟨k+1+1+1+1+1,k+1+1+1+1+1+1,((k+1+1+1+1+1+1+1).tmod 3 == 0),((k+1+1+1+1+1+1+1+1).tmod 3 == 0)⟩,⟨k+1+1+1+1+1+1+1+1+1,k+1+1+1+1+1+1+1+1+1+1,k+1+1+1+1+1+1+1+1+1+1+1,k+1+1+1+1+1+1+1+1+1+1+1+1,k+1+1+1+1+1+1+1+1+1+1+1+1+1,k+1+1+1+1+1+1+1+1+1+1+1+1+1+1,k+1+1+1+1+1+1+1+1+1+1+1+1+1+1+1,k+1+1+1+1+1+1+1+1+1+1+1+1+1+1+1+1,k+1+1+1+1+1+1+1+1+1+1+1+1+1+1+1+1+1,⟨k+1+1+1+1+1+1+1+1+1+1+1+1+1+1+1+1+1+1,k+1+1+1+1+1+1+1+1+1+1+1+1+1+1+1+1+1+1+1,k+1+1+1+1+1+1+1+1+1+1+1+1+1+1+1+1+1+1+1+1,k+1+1+1+1+1+1+1+1+1+1+1+1+1+1+1+1+1+1+1+1+1,k+1+1+1+1+1+1+1+1+1+1+1+1+1+1+1+1+1+1+1+1+1+1⟩,k+1+1+1+1+1+1+1+1+1+1+1+1+1+1+1+1+1+1+1+1+1+1+1,k+1+1+1+1+1+1+1+1+1+1+1+1+1+1+1+1+1+1+1+1+1+1+1+1,((k+1+1+1+1+1+1+1+1+1+1+1+1+1+1+1+1+1+1+1+1+1+1+1+1+1).tmod 3 == 0),k+1+1+1+1+1+1+1+1+1+1+1+1+1+1+1+1+1+1+1+1+1+1+1+1+1+1,oJ (k+1+1+1+1+1+1+1+1+1+1+1+1+1+1+1+1+1+1+1+1+1+1+1+1+1+1+1)⟩⟩:ActD)) (qI 0 1) (by (try dsimp only);exact⟨by omega,by simp;omega,by omega⟩) (by (try dsimp only);omega) (af (by rfl) (by rfl) ?_)⟩
  try simp (disch:=omega) only [go_sem,seval]
  try exact⟨by omega,bl rfl⟩
  try exact bl rfl
 have e:i=l.length:=by omega
 subst e
 refine ah (qI 0 1) (qC) _ (by simp only [go_sem];rfl) (by rfl) (by rfl) ?_
 simp (disch:=omega) only [go_sem,seval]
 try exact hx3
end
section
open Go.RowKit
attribute [go_sem] eK
def iC (k:Int):AddrD:=⟨k,k+1,((k+1+1).tmod 3 == 0),((k+1+1+1).tmod 3 == 0)⟩
theorem j1 (l:List AddrD) (k0:Int) (hl:l.length≤16777216) (h0:0≤k0) (h1:k0≤1099511627776):ae Tryz.prog 95 [.sc (.sl 0 0 l.length),.sc (.int .i64 k0)] [some ⟨l.map AddrD.cs,4,88,true,true⟩] (.sc (.int .i64 (k0+4*(l.length:Int)))) [some ⟨(fj iC 4 k0 l.length).map AddrD.cs,4,88,true,true⟩]:=by
 refine qE Tryz.func95 Tryz.ntmps95 Tryz.results95 fun E hE=>?_
 refine an 1 hE (fun s (x:Nat×Int×List AddrD)=>s.at (qU [6,38]) [(5,.sc (.int .i64 (x.1:Nat))),(1,.sc (.int .i64 x.2.1))] ([some ⟨x.2.2.map AddrD.cs,4,88,true,true⟩])) (fun (x:Nat×Int×List AddrD)=>x.1≤l.length∧x.2.2.length=l.length∧x.2.1=k0+4*(x.1:Int)∧x.2.2.take x.1=fj iC 4 k0 x.1) (fun (x:Nat×Int×List AddrD)=>l.length - x.1) (0,k0,l) (qI 0 1) (qC) (⟨Nat.zero_le _,rfl,by simp,rfl⟩) (af (by rfl) (by rfl) ?_) fun x hx N hN=>?_
 ·exact qY
 obtain⟨i,k,m⟩:=x
 obtain⟨hx1,hx2,hx3,hx4⟩:=hx
 dsimp only at hx1 hx2 hx3 hx4
 refine qR ?_
 refine qB (fun h=>?_) fun h=>?_
 ·have hi:i < m.length:=by omega
  try simp (disch:=omega) only [go_sem,seval,ao hi,dA hi]
  have ht:=gq hi (iC k)
  rw [hx4,hx3,←ix,←hx3] at ht
  refine⟨qC,hN _ (i+1,k+1+1+1+1,m.set i (iC k)) (qI 0 1) (by (try dsimp only);exact⟨by omega,by simp;omega,by omega,ht⟩) (by (try dsimp only);omega) (af (by rfl) (by rfl) ?_)⟩
  try simp (disch:=omega) only [go_sem,seval]
  try exact⟨by omega,bl rfl⟩
  try exact bl rfl
 have e:i=l.length:=by omega
 subst e
 rw [List.take_of_length_le (by omega)] at hx4
 subst hx4
 refine ah (qI 0 1) (qC) _ (by simp only [go_sem];rfl) (by rfl) (by rfl) ?_
 simp (disch:=omega) only [go_sem,seval]
 try exact hx3
 try exact⟨hx3,rfl⟩
theorem j2 (k0:Int) (n:Nat) (hl:n≤16777216) (h0:0≤k0) (h1:k0≤1099511627776):ae Tryz.prog 100 [.sc (.sl 0 0 n),.sc (.int .i64 k0)] [some ⟨(fj iC 4 k0 n).map AddrD.cs,4,88,false,true⟩] (.sc (.int .i64 (k0+4*(n:Int)))) [some ⟨(fj iC 4 k0 n).map AddrD.cs,4,88,false,true⟩]:=by
 have hg:(fj iC 4 k0 n).length=n:=eK
 refine qE Tryz.func100 Tryz.ntmps100 Tryz.results100 fun E hE=>?_
 refine an 1 hE (fun s (x:Nat×Int)=>s.at (qU [4,1,6,46]) [(5,.sc (.int .i64 (x.1:Nat))),(1,.sc (.int .i64 x.2))] (s.hp)) (fun (x:Nat×Int)=>x.1≤n∧x.2=k0+4*(x.1:Int)) (fun (x:Nat×Int)=>n - x.1) (0,k0) (qI 0 1) (qC) (⟨Nat.zero_le _,by simp⟩) (af (by rfl) (by rfl) ?_) fun x hx N hN=>?_
 ·exact qY
 obtain⟨i,k⟩:=x
 obtain⟨hx1,hx3⟩:=hx
 dsimp only at hx1 hx3
 refine qR ?_
 refine qB (fun h=>?_) fun h=>?_
 ·have hi:i < (fj iC 4 k0 n).length:=by omega
  have he:=jC hi
  rw [←hx3] at he
  try simp (disch:=omega) only [go_sem,seval,ao hi,he,iC]
  refine⟨qC,hN _ (i+1,k+1+1+1+1) (qI 0 1) (by (try dsimp only);exact⟨by omega,by omega⟩) (by (try dsimp only);omega) (af (by rfl) (by rfl) ?_)⟩
  try simp (disch:=omega) only [go_sem,seval]
  try omega
 have e:i=n:=by omega
 subst e
 refine ah (qI 0 1) (qC) _ (by simp only [go_sem];rfl) (by rfl) (by rfl) ?_
 simp (disch:=omega) only [go_sem,seval]
 try exact hx3
def jb (k:Int):HalfD:=⟨⟨k,k+1,k+1+1⟩,k+1+1+1,k+1+1+1+1,k+1+1+1+1+1,k+1+1+1+1+1+1,k+1+1+1+1+1+1+1⟩
theorem o_ (l:List HalfD) (k0:Int) (hl:l.length≤16777216) (h0:0≤k0) (h1:k0≤1099511627776):ae Tryz.prog 97 [.sc (.sl 0 0 l.length),.sc (.int .i64 k0)] [some ⟨l.map HalfD.cs,8,213,true,true⟩] (.sc (.int .i64 (k0+8*(l.length:Int)))) [some ⟨(fj jb 8 k0 l.length).map HalfD.cs,8,213,true,true⟩]:=by
 refine qE Tryz.func97 Tryz.ntmps97 Tryz.results97 fun E hE=>?_
 refine an 1 hE (fun s (x:Nat×Int×List HalfD)=>s.at (qU [6,65]) [(5,.sc (.int .i64 (x.1:Nat))),(1,.sc (.int .i64 x.2.1))] ([some ⟨x.2.2.map HalfD.cs,8,213,true,true⟩])) (fun (x:Nat×Int×List HalfD)=>x.1≤l.length∧x.2.2.length=l.length∧x.2.1=k0+8*(x.1:Int)∧x.2.2.take x.1=fj jb 8 k0 x.1) (fun (x:Nat×Int×List HalfD)=>l.length - x.1) (0,k0,l) (qI 0 1) (qC) (⟨Nat.zero_le _,rfl,by simp,rfl⟩) (af (by rfl) (by rfl) ?_) fun x hx N hN=>?_
 ·exact qY
 obtain⟨i,k,m⟩:=x
 obtain⟨hx1,hx2,hx3,hx4⟩:=hx
 dsimp only at hx1 hx2 hx3 hx4
 refine qR ?_
 refine qB (fun h=>?_) fun h=>?_
 ·have hi:i < m.length:=by omega
  try simp (disch:=omega) only [go_sem,seval,ao hi,dA hi]
  have ht:=gq hi (jb k)
  rw [hx4,hx3,←ix,←hx3] at ht
  refine⟨qC,hN _ (i+1,k+1+1+1+1+1+1+1+1,m.set i (jb k)) (qI 0 1) (by (try dsimp only);exact⟨by omega,by simp;omega,by omega,ht⟩) (by (try dsimp only);omega) (af (by rfl) (by rfl) ?_)⟩
  try simp (disch:=omega) only [go_sem,seval]
  try exact⟨by omega,bl rfl⟩
  try exact bl rfl
 have e:i=l.length:=by omega
 subst e
 rw [List.take_of_length_le (by omega)] at hx4
 subst hx4
 refine ah (qI 0 1) (qC) _ (by simp only [go_sem];rfl) (by rfl) (by rfl) ?_
 simp (disch:=omega) only [go_sem,seval]
 try exact hx3
 try exact⟨hx3,rfl⟩
theorem pc (k0:Int) (n:Nat) (hl:n≤16777216) (h0:0≤k0) (h1:k0≤1099511627776):ae Tryz.prog 102 [.sc (.sl 0 0 n),.sc (.int .i64 k0)] [some ⟨(fj jb 8 k0 n).map HalfD.cs,8,213,false,true⟩] (.sc (.int .i64 (k0+8*(n:Int)))) [some ⟨(fj jb 8 k0 n).map HalfD.cs,8,213,false,true⟩]:=by
 have hg:(fj jb 8 k0 n).length=n:=eK
 refine qE Tryz.func102 Tryz.ntmps102 Tryz.results102 fun E hE=>?_
 refine an 1 hE (fun s (x:Nat×Int)=>s.at (qU [4,1,6,81]) [(5,.sc (.int .i64 (x.1:Nat))),(1,.sc (.int .i64 x.2))] (s.hp)) (fun (x:Nat×Int)=>x.1≤n∧x.2=k0+8*(x.1:Int)) (fun (x:Nat×Int)=>n - x.1) (0,k0) (qI 0 1) (qC) (⟨Nat.zero_le _,by simp⟩) (af (by rfl) (by rfl) ?_) fun x hx N hN=>?_
 ·exact qY
 obtain⟨i,k⟩:=x
 obtain⟨hx1,hx3⟩:=hx
 dsimp only at hx1 hx3
 refine qR ?_
 refine qB (fun h=>?_) fun h=>?_
 ·have hi:i < (fj jb 8 k0 n).length:=by omega
  have he:=jC hi
  rw [←hx3] at he
  try simp (disch:=omega) only [go_sem,seval,ao hi,he,jb]
  refine⟨qC,hN _ (i+1,k+1+1+1+1+1+1+1+1) (qI 0 1) (by (try dsimp only);exact⟨by omega,by omega⟩) (by (try dsimp only);omega) (af (by rfl) (by rfl) ?_)⟩
  try simp (disch:=omega) only [go_sem,seval]
  try omega
 have e:i=n:=by omega
 subst e
 refine ah (qI 0 1) (qC) _ (by simp only [go_sem];rfl) (by rfl) (by rfl) ?_
 simp (disch:=omega) only [go_sem,seval]
 try exact hx3
def lH (k:Int):TagD:=⟨k,k+1,k+1+1,k+1+1+1,k+1+1+1+1⟩
theorem rI (l:List TagD) (k0:Int) (hl:l.length≤16777216) (h0:0≤k0) (h1:k0≤1099511627776):ae Tryz.prog 99 [.sc (.sl 0 0 l.length),.sc (.int .i64 k0)] [some ⟨l.map TagD.cs,5,89,true,true⟩] (.sc (.int .i64 (k0+5*(l.length:Int)))) [some ⟨(fj lH 5 k0 l.length).map TagD.cs,5,89,true,true⟩]:=by
 refine qE Tryz.func99 Tryz.ntmps99 Tryz.results99 fun E hE=>?_
 refine an 1 hE (fun s (x:Nat×Int×List TagD)=>s.at (qU [6,41]) [(5,.sc (.int .i64 (x.1:Nat))),(1,.sc (.int .i64 x.2.1))] ([some ⟨x.2.2.map TagD.cs,5,89,true,true⟩])) (fun (x:Nat×Int×List TagD)=>x.1≤l.length∧x.2.2.length=l.length∧x.2.1=k0+5*(x.1:Int)∧x.2.2.take x.1=fj lH 5 k0 x.1) (fun (x:Nat×Int×List TagD)=>l.length - x.1) (0,k0,l) (qI 0 1) (qC) (⟨Nat.zero_le _,rfl,by simp,rfl⟩) (af (by rfl) (by rfl) ?_) fun x hx N hN=>?_
 ·exact qY
 obtain⟨i,k,m⟩:=x
 obtain⟨hx1,hx2,hx3,hx4⟩:=hx
 dsimp only at hx1 hx2 hx3 hx4
 refine qR ?_
 refine qB (fun h=>?_) fun h=>?_
 ·have hi:i < m.length:=by omega
  try simp (disch:=omega) only [go_sem,seval,ao hi,dA hi]
  have ht:=gq hi (lH k)
  rw [hx4,hx3,←ix,←hx3] at ht
  refine⟨qC,hN _ (i+1,k+1+1+1+1+1,m.set i (lH k)) (qI 0 1) (by (try dsimp only);exact⟨by omega,by simp;omega,by omega,ht⟩) (by (try dsimp only);omega) (af (by rfl) (by rfl) ?_)⟩
  try simp (disch:=omega) only [go_sem,seval]
  try exact⟨by omega,bl rfl⟩
  try exact bl rfl
 have e:i=l.length:=by omega
 subst e
 rw [List.take_of_length_le (by omega)] at hx4
 subst hx4
 refine ah (qI 0 1) (qC) _ (by simp only [go_sem];rfl) (by rfl) (by rfl) ?_
 simp (disch:=omega) only [go_sem,seval]
 try exact hx3
 try exact⟨hx3,rfl⟩
theorem rJ (k0:Int) (n:Nat) (hl:n≤16777216) (h0:0≤k0) (h1:k0≤1099511627776):ae Tryz.prog 104 [.sc (.sl 0 0 n),.sc (.int .i64 k0)] [some ⟨(fj lH 5 k0 n).map TagD.cs,5,89,false,true⟩] (.sc (.int .i64 (k0+5*(n:Int)))) [some ⟨(fj lH 5 k0 n).map TagD.cs,5,89,false,true⟩]:=by
 have hg:(fj lH 5 k0 n).length=n:=eK
 refine qE Tryz.func104 Tryz.ntmps104 Tryz.results104 fun E hE=>?_
 refine an 1 hE (fun s (x:Nat×Int)=>s.at (qU [4,1,6,51]) [(5,.sc (.int .i64 (x.1:Nat))),(1,.sc (.int .i64 x.2))] (s.hp)) (fun (x:Nat×Int)=>x.1≤n∧x.2=k0+5*(x.1:Int)) (fun (x:Nat×Int)=>n - x.1) (0,k0) (qI 0 1) (qC) (⟨Nat.zero_le _,by simp⟩) (af (by rfl) (by rfl) ?_) fun x hx N hN=>?_
 ·exact qY
 obtain⟨i,k⟩:=x
 obtain⟨hx1,hx3⟩:=hx
 dsimp only at hx1 hx3
 refine qR ?_
 refine qB (fun h=>?_) fun h=>?_
 ·have hi:i < (fj lH 5 k0 n).length:=by omega
  have he:=jC hi
  rw [←hx3] at he
  try simp (disch:=omega) only [go_sem,seval,ao hi,he,lH]
  refine⟨qC,hN _ (i+1,k+1+1+1+1+1) (qI 0 1) (by (try dsimp only);exact⟨by omega,by omega⟩) (by (try dsimp only);omega) (af (by rfl) (by rfl) ?_)⟩
  try simp (disch:=omega) only [go_sem,seval]
  try omega
 have e:i=n:=by omega
 subst e
 refine ah (qI 0 1) (qC) _ (by simp only [go_sem];rfl) (by rfl) (by rfl) ?_
 simp (disch:=omega) only [go_sem,seval]
 try exact hx3
def dT (k:Int):LetterD:=⟨k,k+1,k+1+1,k+1+1+1,k+1+1+1+1,k+1+1+1+1+1,k+1+1+1+1+1+1,k+1+1+1+1+1+1+1,k+1+1+1+1+1+1+1+1,⟨k+1+1+1+1+1+1+1+1+1,k+1+1+1+1+1+1+1+1+1+1,k+1+1+1+1+1+1+1+1+1+1+1,k+1+1+1+1+1+1+1+1+1+1+1+1,k+1+1+1+1+1+1+1+1+1+1+1+1+1⟩,k+1+1+1+1+1+1+1+1+1+1+1+1+1+1,k+1+1+1+1+1+1+1+1+1+1+1+1+1+1+1,((k+1+1+1+1+1+1+1+1+1+1+1+1+1+1+1+1).tmod 3 == 0),k+1+1+1+1+1+1+1+1+1+1+1+1+1+1+1+1+1,oJ (k+1+1+1+1+1+1+1+1+1+1+1+1+1+1+1+1+1+1)⟩
theorem iZ (l:List LetterD) (k0:Int) (hl:l.length≤16777216) (h0:0≤k0) (h1:k0≤1099511627776):ae Tryz.prog 43 [.sc (.sl 0 0 l.length),.sc (.int .i64 k0)] [some ⟨l.map LetterD.cs,19,91,true,true⟩] (.sc (.int .i64 (k0+19*(l.length:Int)))) [some ⟨(fj dT 19 k0 l.length).map LetterD.cs,19,91,true,true⟩]:=by
 refine qE Tryz.func43 Tryz.ntmps43 Tryz.results43 fun E hE=>?_
 refine an 1 hE (fun s (x:Nat×Int×List LetterD)=>s.at (qU [6,147]) [(5,.sc (.int .i64 (x.1:Nat))),(1,.sc (.int .i64 x.2.1))] ([some ⟨x.2.2.map LetterD.cs,19,91,true,true⟩])) (fun (x:Nat×Int×List LetterD)=>x.1≤l.length∧x.2.2.length=l.length∧x.2.1=k0+19*(x.1:Int)∧x.2.2.take x.1=fj dT 19 k0 x.1) (fun (x:Nat×Int×List LetterD)=>l.length - x.1) (0,k0,l) (qI 0 1) (qC) (⟨Nat.zero_le _,rfl,by simp,rfl⟩) (af (by rfl) (by rfl) ?_) fun x hx N hN=>?_
 ·exact qY
 obtain⟨i,k,m⟩:=x
 obtain⟨hx1,hx2,hx3,hx4⟩:=hx
 dsimp only at hx1 hx2 hx3 hx4
 refine qR ?_
 refine qB (fun h=>?_) fun h=>?_
 ·have hi:i < m.length:=by omega
  try simp (disch:=omega) only [go_sem,seval,ao hi,dA hi]
  refine qK (ec (k+1+1+1+1+1+1+1+1+1+1+1+1+1+1+1+1+1+1) (by omega)) [] ?_
  have ht:=gq hi (dT k)
  rw [hx4,hx3,←ix,←hx3] at ht
  refine⟨qC,hN _ (i+1,k+1+1+1+1+1+1+1+1+1+1+1+1+1+1+1+1+1+1+1,m.set i (dT k)) (qI 0 1) (by (try dsimp only);exact⟨by omega,by simp;omega,by omega,ht⟩) (by (try dsimp only);omega) (af (by rfl) (by rfl) ?_)⟩
  try simp (disch:=omega) only [go_sem,seval]
  try exact⟨by omega,bl rfl⟩
  try exact bl rfl
 have e:i=l.length:=by omega
 subst e
 rw [List.take_of_length_le (by omega)] at hx4
 subst hx4
 refine ah (qI 0 1) (qC) _ (by simp only [go_sem];rfl) (by rfl) (by rfl) ?_
 simp (disch:=omega) only [go_sem,seval]
 try exact hx3
 try exact⟨hx3,rfl⟩
theorem i1 (k0:Int) (n:Nat) (hl:n≤16777216) (h0:0≤k0) (h1:k0≤1099511627776):ae Tryz.prog 46 [.sc (.sl 0 0 n),.sc (.int .i64 k0)] [some ⟨(fj dT 19 k0 n).map LetterD.cs,19,91,false,true⟩] (.sc (.int .i64 (k0+19*(n:Int)))) [some ⟨(fj dT 19 k0 n).map LetterD.cs,19,91,false,true⟩]:=by
 have hg:(fj dT 19 k0 n).length=n:=eK
 refine qE Tryz.func46 Tryz.ntmps46 Tryz.results46 fun E hE=>?_
 refine an 1 hE (fun s (x:Nat×Int)=>s.at (qU [4,1,6,185]) [(5,.sc (.int .i64 (x.1:Nat))),(1,.sc (.int .i64 x.2))] (s.hp)) (fun (x:Nat×Int)=>x.1≤n∧x.2=k0+19*(x.1:Int)) (fun (x:Nat×Int)=>n - x.1) (0,k0) (qI 0 1) (qC) (⟨Nat.zero_le _,by simp⟩) (af (by rfl) (by rfl) ?_) fun x hx N hN=>?_
 ·exact qY
 obtain⟨i,k⟩:=x
 obtain⟨hx1,hx3⟩:=hx
 dsimp only at hx1 hx3
 refine qR ?_
 refine qB (fun h=>?_) fun h=>?_
 ·have hi:i < (fj dT 19 k0 n).length:=by omega
  have he:=jC hi
  rw [←hx3] at he
  try simp (disch:=omega) only [go_sem,seval,ao hi,he,dT]
  refine qD [0,1,2,3,4,5,6,7] ?_
  try simp (disch:=omega) only [go_sem,seval,ao hi,he,dT]
  refine az (ec (k+1+1+1+1+1+1+1+1+1+1+1+1+1+1+1+1+1+1) (by omega)) [] ?_
  refine⟨qC,ac 400 ?_⟩
  try simp (disch:=omega) only [go_sem,seval,dT,beq_self_eq_true]
  refine⟨qC,hN _ (i+1,k+1+1+1+1+1+1+1+1+1+1+1+1+1+1+1+1+1+1+1) (qI 0 1) (by (try dsimp only);exact⟨by omega,by omega⟩) (by (try dsimp only);omega) (af (by rfl) (by rfl) ?_)⟩
  try simp (disch:=omega) only [go_sem,seval]
  try omega
 have e:i=n:=by omega
 subst e
 refine ah (qI 0 1) (qC) _ (by simp only [go_sem];rfl) (by rfl) (by rfl) ?_
 simp (disch:=omega) only [go_sem,seval]
 try exact hx3
def lI (k:Int):SubD:=⟨⟨k,k+1,k+1+1⟩,k+1+1+1,((k+1+1+1+1).tmod 3 == 0),k+1+1+1+1+1,k+1+1+1+1+1+1,k+1+1+1+1+1+1+1,k+1+1+1+1+1+1+1+1,k+1+1+1+1+1+1+1+1+1⟩
theorem rK (l:List SubD) (k0:Int) (hl:l.length≤16777216) (h0:0≤k0) (h1:k0≤1099511627776):ae Tryz.prog 96 [.sc (.sl 0 0 l.length),.sc (.int .i64 k0)] [some ⟨l.map SubD.cs,10,201,true,true⟩] (.sc (.int .i64 (k0+10*(l.length:Int)))) [some ⟨(fj lI 10 k0 l.length).map SubD.cs,10,201,true,true⟩]:=by
 refine qE Tryz.func96 Tryz.ntmps96 Tryz.results96 fun E hE=>?_
 refine an 1 hE (fun s (x:Nat×Int×List SubD)=>s.at (qU [6,81]) [(5,.sc (.int .i64 (x.1:Nat))),(1,.sc (.int .i64 x.2.1))] ([some ⟨x.2.2.map SubD.cs,10,201,true,true⟩])) (fun (x:Nat×Int×List SubD)=>x.1≤l.length∧x.2.2.length=l.length∧x.2.1=k0+10*(x.1:Int)∧x.2.2.take x.1=fj lI 10 k0 x.1) (fun (x:Nat×Int×List SubD)=>l.length - x.1) (0,k0,l) (qI 0 1) (qC) (⟨Nat.zero_le _,rfl,by simp,rfl⟩) (af (by rfl) (by rfl) ?_) fun x hx N hN=>?_
 ·exact qY
 obtain⟨i,k,m⟩:=x
 obtain⟨hx1,hx2,hx3,hx4⟩:=hx
 dsimp only at hx1 hx2 hx3 hx4
 refine qR ?_
 refine qB (fun h=>?_) fun h=>?_
 ·have hi:i < m.length:=by omega
  try simp (disch:=omega) only [go_sem,seval,ao hi,dA hi]
  have ht:=gq hi (lI k)
  rw [hx4,hx3,←ix,←hx3] at ht
  refine⟨qC,hN _ (i+1,k+1+1+1+1+1+1+1+1+1+1,m.set i (lI k)) (qI 0 1) (by (try dsimp only);exact⟨by omega,by simp;omega,by omega,ht⟩) (by (try dsimp only);omega) (af (by rfl) (by rfl) ?_)⟩
  try simp (disch:=omega) only [go_sem,seval]
  try exact⟨by omega,bl rfl⟩
  try exact bl rfl
 have e:i=l.length:=by omega
 subst e
 rw [List.take_of_length_le (by omega)] at hx4
 subst hx4
 refine ah (qI 0 1) (qC) _ (by simp only [go_sem];rfl) (by rfl) (by rfl) ?_
 simp (disch:=omega) only [go_sem,seval]
 try exact hx3
 try exact⟨hx3,rfl⟩
theorem rL (k0:Int) (n:Nat) (hl:n≤16777216) (h0:0≤k0) (h1:k0≤1099511627776):ae Tryz.prog 101 [.sc (.sl 0 0 n),.sc (.int .i64 k0)] [some ⟨(fj lI 10 k0 n).map SubD.cs,10,201,false,true⟩] (.sc (.int .i64 (k0+10*(n:Int)))) [some ⟨(fj lI 10 k0 n).map SubD.cs,10,201,false,true⟩]:=by
 have hg:(fj lI 10 k0 n).length=n:=eK
 refine qE Tryz.func101 Tryz.ntmps101 Tryz.results101 fun E hE=>?_
 refine an 1 hE (fun s (x:Nat×Int)=>s.at (qU [4,1,6,101]) [(5,.sc (.int .i64 (x.1:Nat))),(1,.sc (.int .i64 x.2))] (s.hp)) (fun (x:Nat×Int)=>x.1≤n∧x.2=k0+10*(x.1:Int)) (fun (x:Nat×Int)=>n - x.1) (0,k0) (qI 0 1) (qC) (⟨Nat.zero_le _,by simp⟩) (af (by rfl) (by rfl) ?_) fun x hx N hN=>?_
 ·exact qY
 obtain⟨i,k⟩:=x
 obtain⟨hx1,hx3⟩:=hx
 dsimp only at hx1 hx3
 refine qR ?_
 refine qB (fun h=>?_) fun h=>?_
 ·have hi:i < (fj lI 10 k0 n).length:=by omega
  have he:=jC hi
  rw [←hx3] at he
  try simp (disch:=omega) only [go_sem,seval,ao hi,he,lI]
  refine⟨qC,hN _ (i+1,k+1+1+1+1+1+1+1+1+1+1) (qI 0 1) (by (try dsimp only);exact⟨by omega,by omega⟩) (by (try dsimp only);omega) (af (by rfl) (by rfl) ?_)⟩
  try simp (disch:=omega) only [go_sem,seval]
  try omega
 have e:i=n:=by omega
 subst e
 refine ah (qI 0 1) (qC) _ (by simp only [go_sem];rfl) (by rfl) (by rfl) ?_
 simp (disch:=omega) only [go_sem,seval]
 try exact hx3
def fm (k:Int):PieceD:=⟨k,oJ (k+1)⟩
theorem nV (l:List PieceD) (k0:Int) (hl:l.length≤16777216) (h0:0≤k0) (h1:k0≤1099511627776):ae Tryz.prog 196 [.sc (.sl 0 0 l.length),.sc (.int .i64 k0)] [some ⟨l.map PieceD.cs,2,256,true,true⟩] (.sc (.int .i64 (k0+2*(l.length:Int)))) [some ⟨(fj fm 2 k0 l.length).map PieceD.cs,2,256,true,true⟩]:=by
 refine qE Tryz.func196 Tryz.ntmps196 Tryz.results196 fun E hE=>?_
 refine an 1 hE (fun s (x:Nat×Int×List PieceD)=>s.at (qU [6,21]) [(5,.sc (.int .i64 (x.1:Nat))),(1,.sc (.int .i64 x.2.1))] ([some ⟨x.2.2.map PieceD.cs,2,256,true,true⟩])) (fun (x:Nat×Int×List PieceD)=>x.1≤l.length∧x.2.2.length=l.length∧x.2.1=k0+2*(x.1:Int)∧x.2.2.take x.1=fj fm 2 k0 x.1) (fun (x:Nat×Int×List PieceD)=>l.length - x.1) (0,k0,l) (qI 0 1) (qC) (⟨Nat.zero_le _,rfl,by simp,rfl⟩) (af (by rfl) (by rfl) ?_) fun x hx N hN=>?_
 ·exact qY
 obtain⟨i,k,m⟩:=x
 obtain⟨hx1,hx2,hx3,hx4⟩:=hx
 dsimp only at hx1 hx2 hx3 hx4
 refine qR ?_
 refine qB (fun h=>?_) fun h=>?_
 ·have hi:i < m.length:=by omega
  try simp (disch:=omega) only [go_sem,seval,ao hi,dA hi]
  refine qK (ec (k+1) (by omega)) [] ?_
  have ht:=gq hi (fm k)
  rw [hx4,hx3,←ix,←hx3] at ht
  refine⟨qC,hN _ (i+1,k+1+1,m.set i (fm k)) (qI 0 1) (by (try dsimp only);exact⟨by omega,by simp;omega,by omega,ht⟩) (by (try dsimp only);omega) (af (by rfl) (by rfl) ?_)⟩
  try simp (disch:=omega) only [go_sem,seval]
  try exact⟨by omega,bl rfl⟩
  try exact bl rfl
 have e:i=l.length:=by omega
 subst e
 rw [List.take_of_length_le (by omega)] at hx4
 subst hx4
 refine ah (qI 0 1) (qC) _ (by simp only [go_sem];rfl) (by rfl) (by rfl) ?_
 simp (disch:=omega) only [go_sem,seval]
 try exact hx3
 try exact⟨hx3,rfl⟩
theorem nW (k0:Int) (n:Nat) (hl:n≤16777216) (h0:0≤k0) (h1:k0≤1099511627776):ae Tryz.prog 197 [.sc (.sl 0 0 n),.sc (.int .i64 k0)] [some ⟨(fj fm 2 k0 n).map PieceD.cs,2,256,false,true⟩] (.sc (.int .i64 (k0+2*(n:Int)))) [some ⟨(fj fm 2 k0 n).map PieceD.cs,2,256,false,true⟩]:=by
 have hg:(fj fm 2 k0 n).length=n:=eK
 refine qE Tryz.func197 Tryz.ntmps197 Tryz.results197 fun E hE=>?_
 refine an 1 hE (fun s (x:Nat×Int)=>s.at (qU [4,1,6,25]) [(5,.sc (.int .i64 (x.1:Nat))),(1,.sc (.int .i64 x.2))] (s.hp)) (fun (x:Nat×Int)=>x.1≤n∧x.2=k0+2*(x.1:Int)) (fun (x:Nat×Int)=>n - x.1) (0,k0) (qI 0 1) (qC) (⟨Nat.zero_le _,by simp⟩) (af (by rfl) (by rfl) ?_) fun x hx N hN=>?_
 ·exact qY
 obtain⟨i,k⟩:=x
 obtain⟨hx1,hx3⟩:=hx
 dsimp only at hx1 hx3
 refine qR ?_
 refine qB (fun h=>?_) fun h=>?_
 ·have hi:i < (fj fm 2 k0 n).length:=by omega
  have he:=jC hi
  rw [←hx3] at he
  try simp (disch:=omega) only [go_sem,seval,ao hi,he,fm]
  refine qD [0,1,2,3,4,5,6,7] ?_
  try simp (disch:=omega) only [go_sem,seval,ao hi,he,fm]
  refine az (ec (k+1) (by omega)) [] ?_
  refine⟨qC,ac 400 ?_⟩
  try simp (disch:=omega) only [go_sem,seval,fm,beq_self_eq_true]
  refine⟨qC,hN _ (i+1,k+1+1) (qI 0 1) (by (try dsimp only);exact⟨by omega,by omega⟩) (by (try dsimp only);omega) (af (by rfl) (by rfl) ?_)⟩
  try simp (disch:=omega) only [go_sem,seval]
  try omega
 have e:i=n:=by omega
 subst e
 refine ah (qI 0 1) (qC) _ (by simp only [go_sem];rfl) (by rfl) (by rfl) ?_
 simp (disch:=omega) only [go_sem,seval]
 try exact hx3
def PiecesD.cnt (x:PiecesD):Int:=2*(x.list.length:Int)
def dJ (x:PiecesD) (k:Int):PiecesD:={ x with list:=fj fm 2 (k) x.list.length }
theorem PiecesD.cnt_le (x:PiecesD) (l0:x.list.length≤1048576):0≤x.cnt∧x.cnt≤39845888:=by
 unfold PiecesD.cnt
 omega
theorem nX (x:PiecesD) (k0:Int) (l0:x.list.length≤1048576) (h0:0≤k0) (h1:k0≤549755813888):ae Tryz.prog 98 [.ag (x.cs 0),.sc (.int .i64 k0)] (x.hp true) (.sc (.int .i64 (k0+x.cnt))) ((dJ x k0).hp true):=by
 simp only [dJ]
 refine qE Tryz.func98 Tryz.ntmps98 Tryz.results98 fun E hE=>?_
 refine qK (nV x.list (k0) (by omega) (by omega) (by omega)) (qI 0 1) ?_
 refine ah (qI 0 1) (qC) _ (by simp only [go_sem];rfl) (by rfl) (by rfl) ?_
 simp (disch:=omega) only [go_sem,seval]
 try simp only [PiecesD.cnt]
 try omega
theorem nY (x:PiecesD) (k0:Int) (l0:x.list.length≤1048576) (h0:0≤k0) (h1:k0≤549755813888):ae Tryz.prog 103 [.ag ((dJ x k0).cs 0),.sc (.int .i64 k0)] ((dJ x k0).hp false) (.sc (.int .i64 (k0+x.cnt))) ((dJ x k0).hp false):=by
 simp only [dJ]
 refine qE Tryz.func103 Tryz.ntmps103 Tryz.results103 fun E hE=>?_
 refine qK (nW (k0) x.list.length (by omega) (by omega) (by omega)) (qI 0 1) ?_
 refine ah (qI 0 1) (qC) _ (by simp only [go_sem];rfl) (by rfl) (by rfl) ?_
 simp (disch:=omega) only [go_sem,seval]
 try simp only [PiecesD.cnt]
 try omega
def KnownD.cnt (x:KnownD):Int:=1*(x.keys.length:Int)+5*(x.tags.length:Int)
def d5 (x:KnownD) (k:Int):KnownD:={ x with keys:=fj iy 1 (k) x.keys.length,tags:=fj lH 5 (k+1*(x.keys.length:Int)) x.tags.length }
theorem KnownD.cnt_le (x:KnownD) (l0:x.keys.length≤1048576) (l1:x.tags.length≤1048576):0≤x.cnt∧x.cnt≤79691776:=by
 unfold KnownD.cnt
 omega
theorem pd (x:KnownD) (k0:Int) (l0:x.keys.length≤1048576) (l1:x.tags.length≤1048576) (h0:0≤k0) (h1:k0≤549755813888):ae Tryz.prog 44 [.ag (x.cs 0),.sc (.int .i64 k0)] (x.hp true) (.sc (.int .i64 (k0+x.cnt))) ((d5 x k0).hp true):=by
 simp only [d5]
 refine qE Tryz.func44 Tryz.ntmps44 Tryz.results44 fun E hE=>?_
 refine qK (bN x.keys (k0) (by omega) (by omega) (by omega)) (qI 0 1) ?_
 refine qK (rI x.tags (k0+1*(x.keys.length:Int)) (by omega) (by omega) (by omega)) (qI 1 1) ?_
 refine ah (qI 0 2) (qC) _ (by simp only [go_sem];rfl) (by rfl) (by rfl) ?_
 simp (disch:=omega) only [go_sem,seval]
 try simp only [KnownD.cnt]
 try omega
theorem pe (x:KnownD) (k0:Int) (l0:x.keys.length≤1048576) (l1:x.tags.length≤1048576) (h0:0≤k0) (h1:k0≤549755813888):ae Tryz.prog 47 [.ag ((d5 x k0).cs 0),.sc (.int .i64 k0)] ((d5 x k0).hp false) (.sc (.int .i64 (k0+x.cnt))) ((d5 x k0).hp false):=by
 simp only [d5]
 refine qE Tryz.func47 Tryz.ntmps47 Tryz.results47 fun E hE=>?_
 refine qK (ed (k0) x.keys.length (by omega) (by omega) (by omega)) (qI 0 1) ?_
 refine qK (rJ (k0+1*(x.keys.length:Int)) x.tags.length (by omega) (by omega) (by omega)) (qI 1 1) ?_
 refine ah (qI 0 2) (qC) _ (by simp only [go_sem];rfl) (by rfl) (by rfl) ?_
 simp (disch:=omega) only [go_sem,seval]
 try simp only [KnownD.cnt]
 try omega
def EndD.cnt (x:EndD):Int:=4*(x.own.length:Int)+4*(x.far.length:Int)+10*(x.subs.length:Int)+8*(x.halfs.length:Int)+PiecesD.cnt x.inp+1*(x.done.length:Int)+1*(x.over.length:Int)
def eW (x:EndD) (k:Int):EndD:={ x with own:=fj iC 4 (k) x.own.length,far:=fj iC 4 (k+4*(x.own.length:Int)) x.far.length,subs:=fj lI 10 (k+4*(x.own.length:Int)+4*(x.far.length:Int)) x.subs.length,halfs:=fj jb 8 (k+4*(x.own.length:Int)+4*(x.far.length:Int)+10*(x.subs.length:Int)) x.halfs.length,inp:=dJ x.inp (k+4*(x.own.length:Int)+4*(x.far.length:Int)+10*(x.subs.length:Int)+8*(x.halfs.length:Int)),done:=fj iy 1 (k+4*(x.own.length:Int)+4*(x.far.length:Int)+10*(x.subs.length:Int)+8*(x.halfs.length:Int)+PiecesD.cnt x.inp) x.done.length,over:=fj iy 1 (k+4*(x.own.length:Int)+4*(x.far.length:Int)+10*(x.subs.length:Int)+8*(x.halfs.length:Int)+PiecesD.cnt x.inp+1*(x.done.length:Int)) x.over.length }
theorem EndD.cnt_le (x:EndD) (l0:x.own.length≤1048576) (l1:x.far.length≤1048576) (l2:x.subs.length≤1048576) (l3:x.halfs.length≤1048576) (l4:x.inp.list.length≤1048576) (l5:x.done.length≤1048576) (l6:x.over.length≤1048576):0≤x.cnt∧x.cnt≤278921216:=by
 have:=PiecesD.cnt_le x.inp l4
 unfold EndD.cnt
 omega
theorem lJ (x:EndD) (k0:Int) (l0:x.own.length≤1048576) (l1:x.far.length≤1048576) (l2:x.subs.length≤1048576) (l3:x.halfs.length≤1048576) (l4:x.inp.list.length≤1048576) (l5:x.done.length≤1048576) (l6:x.over.length≤1048576) (h0:0≤k0) (h1:k0≤274877906944):ae Tryz.prog 42 [.ag (x.cs 0),.sc (.int .i64 k0)] (x.hp true) (.sc (.int .i64 (k0+x.cnt))) ((eW x k0).hp true):=by
 have c_inp:=PiecesD.cnt_le x.inp l4
 simp only [eW]
 refine qE Tryz.func42 Tryz.ntmps42 Tryz.results42 fun E hE=>?_
 refine qK (j1 x.own (k0) (by omega) (by omega) (by omega)) (qI 0 1) ?_
 refine qK (j1 x.far (k0+4*(x.own.length:Int)) (by omega) (by omega) (by omega)) (qI 1 1) ?_
 refine qK (rK x.subs (k0+4*(x.own.length:Int)+4*(x.far.length:Int)) (by omega) (by omega) (by omega)) (qI 2 1) ?_
 refine qK (o_ x.halfs (k0+4*(x.own.length:Int)+4*(x.far.length:Int)+10*(x.subs.length:Int)) (by omega) (by omega) (by omega)) (qI 3 1) ?_
 refine qK (nX x.inp (k0+4*(x.own.length:Int)+4*(x.far.length:Int)+10*(x.subs.length:Int)+8*(x.halfs.length:Int)) l4 (by omega) (by omega)) (qI 4 1) ?_
 refine qK (bN x.done (k0+4*(x.own.length:Int)+4*(x.far.length:Int)+10*(x.subs.length:Int)+8*(x.halfs.length:Int)+PiecesD.cnt x.inp) (by omega) (by omega) (by omega)) (qI 5 1) ?_
 refine qK (bN x.over (k0+4*(x.own.length:Int)+4*(x.far.length:Int)+10*(x.subs.length:Int)+8*(x.halfs.length:Int)+PiecesD.cnt x.inp+1*(x.done.length:Int)) (by omega) (by omega) (by omega)) (qI 6 1) ?_
 refine ah (qI 0 7) (qC) _ (by simp only [go_sem];rfl) (by rfl) (by rfl) ?_
 simp (disch:=omega) only [go_sem,seval]
 try simp only [EndD.cnt]
 try omega
theorem lK (x:EndD) (k0:Int) (l0:x.own.length≤1048576) (l1:x.far.length≤1048576) (l2:x.subs.length≤1048576) (l3:x.halfs.length≤1048576) (l4:x.inp.list.length≤1048576) (l5:x.done.length≤1048576) (l6:x.over.length≤1048576) (h0:0≤k0) (h1:k0≤274877906944):ae Tryz.prog 45 [.ag ((eW x k0).cs 0),.sc (.int .i64 k0)] ((eW x k0).hp false) (.sc (.int .i64 (k0+x.cnt))) ((eW x k0).hp false):=by
 have c_inp:=PiecesD.cnt_le x.inp l4
 simp only [eW]
 refine qE Tryz.func45 Tryz.ntmps45 Tryz.results45 fun E hE=>?_
 refine qK (j2 (k0) x.own.length (by omega) (by omega) (by omega)) (qI 0 1) ?_
 refine qK (j2 (k0+4*(x.own.length:Int)) x.far.length (by omega) (by omega) (by omega)) (qI 1 1) ?_
 refine qK (rL (k0+4*(x.own.length:Int)+4*(x.far.length:Int)) x.subs.length (by omega) (by omega) (by omega)) (qI 2 1) ?_
 refine qK (pc (k0+4*(x.own.length:Int)+4*(x.far.length:Int)+10*(x.subs.length:Int)) x.halfs.length (by omega) (by omega) (by omega)) (qI 3 1) ?_
 refine qK (nY x.inp (k0+4*(x.own.length:Int)+4*(x.far.length:Int)+10*(x.subs.length:Int)+8*(x.halfs.length:Int)) l4 (by omega) (by omega)) (qI 4 1) ?_
 refine qK (ed (k0+4*(x.own.length:Int)+4*(x.far.length:Int)+10*(x.subs.length:Int)+8*(x.halfs.length:Int)+PiecesD.cnt x.inp) x.done.length (by omega) (by omega) (by omega)) (qI 5 1) ?_
 refine qK (ed (k0+4*(x.own.length:Int)+4*(x.far.length:Int)+10*(x.subs.length:Int)+8*(x.halfs.length:Int)+PiecesD.cnt x.inp+1*(x.done.length:Int)) x.over.length (by omega) (by omega) (by omega)) (qI 6 1) ?_
 refine ah (qI 0 7) (qC) _ (by simp only [go_sem];rfl) (by rfl) (by rfl) ?_
 simp (disch:=omega) only [go_sem,seval]
 try simp only [EndD.cnt]
 try omega
def WorldD.cnt (x:WorldD):Int:=EndD.cnt x.a+EndD.cnt x.b+19*(x.bag.length:Int)+19*(x.past.length:Int)+KnownD.cnt x.known+1*(x.nums.length:Int)+1*(x.answersA.length:Int)+1*(x.answersB.length:Int)
def eO (x:WorldD) (k:Int):WorldD:={ x with a:=eW x.a (k),b:=eW x.b (k+EndD.cnt x.a),bag:=fj dT 19 (k+EndD.cnt x.a+EndD.cnt x.b) x.bag.length,past:=fj dT 19 (k+EndD.cnt x.a+EndD.cnt x.b+19*(x.bag.length:Int)) x.past.length,known:=d5 x.known (k+EndD.cnt x.a+EndD.cnt x.b+19*(x.bag.length:Int)+19*(x.past.length:Int)),nums:=fj iy 1 (k+EndD.cnt x.a+EndD.cnt x.b+19*(x.bag.length:Int)+19*(x.past.length:Int)+KnownD.cnt x.known) x.nums.length,answersA:=fj iy 1 (k+EndD.cnt x.a+EndD.cnt x.b+19*(x.bag.length:Int)+19*(x.past.length:Int)+KnownD.cnt x.known+1*(x.nums.length:Int)) x.answersA.length,answersB:=fj iy 1 (k+EndD.cnt x.a+EndD.cnt x.b+19*(x.bag.length:Int)+19*(x.past.length:Int)+KnownD.cnt x.known+1*(x.nums.length:Int)+1*(x.answersA.length:Int)) x.answersB.length }
theorem WorldD.cnt_le (x:WorldD) (l0:x.a.own.length≤1048576) (l1:x.a.far.length≤1048576) (l2:x.a.subs.length≤1048576) (l3:x.a.halfs.length≤1048576) (l4:x.a.inp.list.length≤1048576) (l5:x.a.done.length≤1048576) (l6:x.a.over.length≤1048576) (l7:x.b.own.length≤1048576) (l8:x.b.far.length≤1048576) (l9:x.b.subs.length≤1048576) (l10:x.b.halfs.length≤1048576) (l11:x.b.inp.list.length≤1048576) (l12:x.b.done.length≤1048576) (l13:x.b.over.length≤1048576) (l14:x.bag.length≤1048576) (l15:x.past.length≤1048576) (l16:x.known.keys.length≤1048576) (l17:x.known.tags.length≤1048576) (l18:x.nums.length≤1048576) (l19:x.answersA.length≤1048576) (l20:x.answersB.length≤1048576):0≤x.cnt∧x.cnt≤836763648:=by
 have:=EndD.cnt_le x.a l0 l1 l2 l3 l4 l5 l6
 have:=EndD.cnt_le x.b l7 l8 l9 l10 l11 l12 l13
 have:=KnownD.cnt_le x.known l16 l17
 unfold WorldD.cnt
 omega
theorem pf (x:WorldD) (k0:Int) (l0:x.a.own.length≤1048576) (l1:x.a.far.length≤1048576) (l2:x.a.subs.length≤1048576) (l3:x.a.halfs.length≤1048576) (l4:x.a.inp.list.length≤1048576) (l5:x.a.done.length≤1048576) (l6:x.a.over.length≤1048576) (l7:x.b.own.length≤1048576) (l8:x.b.far.length≤1048576) (l9:x.b.subs.length≤1048576) (l10:x.b.halfs.length≤1048576) (l11:x.b.inp.list.length≤1048576) (l12:x.b.done.length≤1048576) (l13:x.b.over.length≤1048576) (l14:x.bag.length≤1048576) (l15:x.past.length≤1048576) (l16:x.known.keys.length≤1048576) (l17:x.known.tags.length≤1048576) (l18:x.nums.length≤1048576) (l19:x.answersA.length≤1048576) (l20:x.answersB.length≤1048576) (h0:0≤k0) (h1:k0≤137438953472):ae Tryz.prog 19 [.ag (x.cs 0),.sc (.int .i64 k0)] (x.hp true) (.sc (.int .i64 (k0+x.cnt))) ((eO x k0).hp true):=by
 have c_a:=EndD.cnt_le x.a l0 l1 l2 l3 l4 l5 l6
 have c_b:=EndD.cnt_le x.b l7 l8 l9 l10 l11 l12 l13
 have c_known:=KnownD.cnt_le x.known l16 l17
 simp only [eO]
 refine qE Tryz.func19 Tryz.ntmps19 Tryz.results19 fun E hE=>?_
 refine qK (lJ x.a (k0) l0 l1 l2 l3 l4 l5 l6 (by omega) (by omega)) (qI 0 7) ?_
 refine qK (lJ x.b (k0+EndD.cnt x.a) l7 l8 l9 l10 l11 l12 l13 (by omega) (by omega)) (qI 7 7) ?_
 refine qK (iZ x.bag (k0+EndD.cnt x.a+EndD.cnt x.b) (by omega) (by omega) (by omega)) (qI 14 1) ?_
 refine qK (iZ x.past (k0+EndD.cnt x.a+EndD.cnt x.b+19*(x.bag.length:Int)) (by omega) (by omega) (by omega)) (qI 15 1) ?_
 refine qK (pd x.known (k0+EndD.cnt x.a+EndD.cnt x.b+19*(x.bag.length:Int)+19*(x.past.length:Int)) l16 l17 (by omega) (by omega)) (qI 16 2) ?_
 refine qK (bN x.nums (k0+EndD.cnt x.a+EndD.cnt x.b+19*(x.bag.length:Int)+19*(x.past.length:Int)+KnownD.cnt x.known) (by omega) (by omega) (by omega)) (qI 18 1) ?_
 refine qK (bN x.answersA (k0+EndD.cnt x.a+EndD.cnt x.b+19*(x.bag.length:Int)+19*(x.past.length:Int)+KnownD.cnt x.known+1*(x.nums.length:Int)) (by omega) (by omega) (by omega)) (qI 19 1) ?_
 refine qK (bN x.answersB (k0+EndD.cnt x.a+EndD.cnt x.b+19*(x.bag.length:Int)+19*(x.past.length:Int)+KnownD.cnt x.known+1*(x.nums.length:Int)+1*(x.answersA.length:Int)) (by omega) (by omega) (by omega)) (qI 20 1) ?_
 refine ah (qI 0 21) (qC) _ (by simp only [go_sem];rfl) (by rfl) (by rfl) ?_
 simp (disch:=omega) only [go_sem,seval]
 try simp only [WorldD.cnt]
 try omega
theorem j3 (x:WorldD) (k0:Int) (l0:x.a.own.length≤1048576) (l1:x.a.far.length≤1048576) (l2:x.a.subs.length≤1048576) (l3:x.a.halfs.length≤1048576) (l4:x.a.inp.list.length≤1048576) (l5:x.a.done.length≤1048576) (l6:x.a.over.length≤1048576) (l7:x.b.own.length≤1048576) (l8:x.b.far.length≤1048576) (l9:x.b.subs.length≤1048576) (l10:x.b.halfs.length≤1048576) (l11:x.b.inp.list.length≤1048576) (l12:x.b.done.length≤1048576) (l13:x.b.over.length≤1048576) (l14:x.bag.length≤1048576) (l15:x.past.length≤1048576) (l16:x.known.keys.length≤1048576) (l17:x.known.tags.length≤1048576) (l18:x.nums.length≤1048576) (l19:x.answersA.length≤1048576) (l20:x.answersB.length≤1048576) (h0:0≤k0) (h1:k0≤137438953472):ae Tryz.prog 21 [.ag ((eO x k0).cs 0),.sc (.int .i64 k0)] ((eO x k0).hp false) (.sc (.int .i64 (k0+x.cnt))) ((eO x k0).hp false):=by
 have c_a:=EndD.cnt_le x.a l0 l1 l2 l3 l4 l5 l6
 have c_b:=EndD.cnt_le x.b l7 l8 l9 l10 l11 l12 l13
 have c_known:=KnownD.cnt_le x.known l16 l17
 simp only [eO]
 refine qE Tryz.func21 Tryz.ntmps21 Tryz.results21 fun E hE=>?_
 refine qK (lK x.a (k0) l0 l1 l2 l3 l4 l5 l6 (by omega) (by omega)) (qI 0 7) ?_
 refine qK (lK x.b (k0+EndD.cnt x.a) l7 l8 l9 l10 l11 l12 l13 (by omega) (by omega)) (qI 7 7) ?_
 refine qK (i1 (k0+EndD.cnt x.a+EndD.cnt x.b) x.bag.length (by omega) (by omega) (by omega)) (qI 14 1) ?_
 refine qK (i1 (k0+EndD.cnt x.a+EndD.cnt x.b+19*(x.bag.length:Int)) x.past.length (by omega) (by omega) (by omega)) (qI 15 1) ?_
 refine qK (pe x.known (k0+EndD.cnt x.a+EndD.cnt x.b+19*(x.bag.length:Int)+19*(x.past.length:Int)) l16 l17 (by omega) (by omega)) (qI 16 2) ?_
 refine qK (ed (k0+EndD.cnt x.a+EndD.cnt x.b+19*(x.bag.length:Int)+19*(x.past.length:Int)+KnownD.cnt x.known) x.nums.length (by omega) (by omega) (by omega)) (qI 18 1) ?_
 refine qK (ed (k0+EndD.cnt x.a+EndD.cnt x.b+19*(x.bag.length:Int)+19*(x.past.length:Int)+KnownD.cnt x.known+1*(x.nums.length:Int)) x.answersA.length (by omega) (by omega) (by omega)) (qI 19 1) ?_
 refine qK (ed (k0+EndD.cnt x.a+EndD.cnt x.b+19*(x.bag.length:Int)+19*(x.past.length:Int)+KnownD.cnt x.known+1*(x.nums.length:Int)+1*(x.answersA.length:Int)) x.answersB.length (by omega) (by omega) (by omega)) (qI 20 1) ?_
 refine ah (qI 0 21) (qC) _ (by simp only [go_sem];rfl) (by rfl) (by rfl) ?_
 simp (disch:=omega) only [go_sem,seval]
 try simp only [WorldD.cnt]
 try omega
end
section
open Go.RowKit
attribute [go_sem] eO eW dJ d5
theorem aay (p:PolicyD) (l:List ActD) (ha:∀ a∈l,a.text.length≤1048576):SmallW (e5 p l).1∧(e5 p l).2.length≤120:=by
 rw [e5];split
 ·rename_i h
  have:=ZW (Q:=GoodW) (P:=fun a=>a.text.length≤1048576) (fun w k a h ha=>w7 h ha) (l:=l) (cs:=[]) (ZQ h.1).g ha
  refine⟨this.1.s,?_⟩
  rw [this.2,List.length_nil,Nat.zero_add]
  exact h.2
 exact⟨⟨⟨by decide,by decide,by decide,by decide,by decide,by decide,by decide⟩,⟨by decide,by decide,by decide,by decide,by decide,by decide,by decide⟩,by decide,by decide,by decide,by decide,by decide,by decide,by decide⟩,by decide⟩
theorem aaW (a0:PolicyD) (w0:a0.wf) (a1:List ActD) (n1:a1.length≤maxLen) (w1:∀ x∈a1,x.wf):ae Tryz.prog 4 [.ag a0.cs,.sc (.sl 0 0 a1.length)] [some ⟨a1.map ActD.cs,28,82,false,true⟩] (.sc (.bo true)) [some ⟨a1.map ActD.cs,28,82,false,true⟩]:=by
 simp only [maxLen] at n1
 refine qE Tryz.func4 Tryz.ntmps4 Tryz.results4 fun E hE=>?_
 refine qK (aax a1 1048576 w1 (by omega) (by omega) (by omega)) (qI 0 1) ?_
 generalize hr:aU 1048576 (r9 a1)=r
 have hb:=bL (by omega) (aac a1) hr
 refine qB (fun h1=>?_) fun h1=>?_
 ·exact qF (qI 0 1)
 have hn:0≤r:=by omega
 obtain⟨l1,l2⟩:=aaV (by omega) (by omega) hr hn
 have hSp:=aaI a0 a1 l1 l2
 have hIm:=aaH a0 a1 l1 l2
 obtain⟨hsm,hcl⟩:=aay a0 a1 l2
 obtain⟨RR,hW⟩:∃ W,W=e5 a0 a1:=⟨_,rfl⟩
 rw [←hW] at hSp hIm hsm hcl
 clear hW
 obtain⟨W,C⟩:=RR
 dsimp only at hSp hIm hsm hcl
 have q0:=hsm.a.own
 have q1:=hsm.a.far
 have q2:=hsm.a.subs
 have q3:=hsm.a.halfs
 have q4:=hsm.a.list
 have q5:=hsm.a.done
 have q6:=hsm.a.over
 have q7:=hsm.b.own
 have q8:=hsm.b.far
 have q9:=hsm.b.subs
 have q10:=hsm.b.halfs
 have q11:=hsm.b.list
 have q12:=hsm.b.done
 have q13:=hsm.b.over
 have q14:=hsm.bag
 have q15:=hsm.past
 have q16:=hsm.keys
 have q17:=hsm.tags
 have q18:=hsm.nums
 have q19:=hsm.ansA
 have q20:=hsm.ansB
 have hcnt:=WorldD.cnt_le W q0 q1 q2 q3 q4 q5 q6 q7 q8 q9 q10 q11 q12 q13 q14 q15 q16 q17 q18 q19 q20
 refine qK (sK a0) [] ?_
 refine qK (t6 a1 l1) (qI 0 1) ?_
 refine qK (hSp) (qI 2 1) ?_
 refine qK (t6 a1 l1) (qI 0 1) ?_
 refine qK (sK a0) [] ?_
 refine qK (hIm) (qI 26 1) ?_
 refine qK (h_ W (by omega) (by omega) (by omega) (by omega) (by omega) (by omega) (by omega) (by omega) (by omega) (by omega) (by omega) (by omega) (by omega) (by omega) (by omega) (by omega) (by omega) (by omega) (by omega) (by omega) (by omega)) (qI 27 21++qI 3 21) ?_
 refine qK (fH C (by omega)) (qI 48 1++qI 24 1) ?_
 refine qK (t6 a1 l1) (qI 0 1) ?_
 refine qK (aao a1 (by omega)) (qI 26 1++qI 50 1) ?_
 refine qK (aag a1 1 (by omega) (by omega) (by omega)) (qI 26 1) ?_
 refine qK (h_ W (by omega) (by omega) (by omega) (by omega) (by omega) (by omega) (by omega) (by omega) (by omega) (by omega) (by omega) (by omega) (by omega) (by omega) (by omega) (by omega) (by omega) (by omega) (by omega) (by omega) (by omega)) (qI 27 21++qI 3 21) ?_
 refine qK (fH C (by omega)) (qI 48 1++qI 24 1) ?_
 refine qK (pf W 1 q0 q1 q2 q3 q4 q5 q6 q7 q8 q9 q10 q11 q12 q13 q14 q15 q16 q17 q18 q19 q20 (by omega) (by omega)) (qI 27 21) ?_
 refine qK (bN C (1+W.cnt) (by omega) (by omega) (by omega)) (qI 48 1) ?_
 refine qK (j3 W 1 q0 q1 q2 q3 q4 q5 q6 q7 q8 q9 q10 q11 q12 q13 q14 q15 q16 q17 q18 q19 q20 (by omega) (by omega)) (qI 27 21) ?_
 refine qK (ed (1+W.cnt) C.length (by omega) (by omega) (by omega)) (qI 48 1) ?_
 refine qK (sK a0) [] ?_
 refine qK (t6 a1 l1) (qI 0 1) ?_
 refine qK (hIm) (qI 51 1) ?_
 refine qK (h_ W (by omega) (by omega) (by omega) (by omega) (by omega) (by omega) (by omega) (by omega) (by omega) (by omega) (by omega) (by omega) (by omega) (by omega) (by omega) (by omega) (by omega) (by omega) (by omega) (by omega) (by omega)) (qI 52 21++qI 3 21) ?_
 refine qK (fH C (by omega)) (qI 73 1++qI 24 1) ?_
 refine qK (j3 W 1 q0 q1 q2 q3 q4 q5 q6 q7 q8 q9 q10 q11 q12 q13 q14 q15 q16 q17 q18 q19 q20 (by omega) (by omega)) (qI 27 21) ?_
 refine qK (ed (1+W.cnt) C.length (by omega) (by omega) (by omega)) (qI 48 1) ?_
 exact qF (qI 0 1)
end
section
open Go.RowKit
end
section
open Go
def kK (R:Nat) (g:Nat):Nat:=(R >>> (10*g)) % 1024
def T2 (P:Program) (R lo hi:Nat) (g:Nat):Bool:=
 match P.funcs[g]? with
 |none=>true
 |some fn=>((P.leadsTo fn).all fun h=>Nat.blt (kK R h) (kK R g) && (Nat.ble lo h && Nat.blt h hi)) && (!(fn.ours || fn.body.isNone || fn.name == "runtime.NumGoroutine") && (match fn.body with|some c=> !c.unfollowed && c.globalsNamed.isEmpty|none=>false))
def o2 (P:Program) (R lo hi:Nat) (g:Nat):Bool:=Nat.ble 1000 (kK R g) || T2 P R lo hi g
theorem ns {P:Program} {R lo hi g:Nat} (h:o2 P R lo hi g=true) (hr:kK R g < 1000):T2 P R lo hi g=true:=by
 unfold o2 at h
 rw [Bool.or_eq_true,Nat.ble_eq] at h
 exact h.resolve_left (by omega)
theorem yp {P:Program} {R lo hi:Nat} (h:∀ g,lo≤g∧g < hi→o2 P R lo hi g=true) {g k:FuncId} (hb:lo≤g∧g < hi) (hr:kK R g < 1000) (hk:k∈(P.funcs[g]?).elim [] P.leadsTo):kK R k < kK R g∧lo≤k∧k < hi:=by
 have hg:=ns (h g hb) hr
 unfold T2 at hg
 cases hf:P.funcs[g]? with
 |none=>rw [hf] at hk;simp at hk
 |some fn=>
  rw [hf] at hg hk
  simp only [Bool.and_eq_true,List.all_eq_true,Nat.blt_eq,Nat.ble_eq] at hg
  exact hg.1 k hk
theorem yq {P:Program} {R lo hi:Nat} (h:∀ g,lo≤g∧g < hi→o2 P R lo hi g=true) (f:FuncId) (hf0:(lo≤f∧f < hi)∧kK R f < 1000):P.inPlace f=[]∧P.unfollowed f=false∧P.recurses f=false∧P.varsNamed f=[]:=by
 have hin:∀ k,(lo≤k∧k < hi)∧kK R k < 1000→∀ x∈P.closure k,(lo≤x∧x < hi)∧kK R x < 1000:=fun k hk=>o3 (S:=fun x=>(lo≤x∧x < hi)∧kK R x < 1000) (fun a ha b hb=>⟨(yp h ha.1 ha.2 hb).2,Nat.lt_trans (yp h ha.1 ha.2 hb).1 ha.2⟩) hk
 have hu:P.unfollowed f=false:=by
  unfold Program.unfollowed
  rw [List.any_eq_false]
  intro g hgc
  have hg:=ns (h g (hin f hf0 g hgc).1) (hin f hf0 g hgc).2
  unfold T2 at hg
  cases hf:P.funcs[g]? with
  |none=>simp
  |some fn=>
   rw [hf] at hg
   simp only [Bool.and_eq_true] at hg
   simp only [Option.any_some]
   cases hb:fn.body with
   |none=>rw [hb] at hg;simp at hg
   |some c=>rw [hb] at hg;simp at hg⊢;exact hg.2.2.1
 refine⟨?_,hu,?_,?_⟩
 ·unfold Program.inPlace
  rw [List.filterMap_eq_nil_iff]
  intro g hgc
  have hg:=ns (h g (hin f hf0 g hgc).1) (hin f hf0 g hgc).2
  unfold T2 at hg
  cases hf:P.funcs[g]? with
  |none=>rfl
  |some fn=>
   rw [hf] at hg
   simp only [Bool.and_eq_true,Bool.not_eq_true'] at hg
   simp only [Option.bind_some]
   rw [hg.2.1]
   rfl
 ·unfold Program.recurses
  rw [hu,Bool.false_or,List.any_eq_false]
  intro g hgc
  rw [Bool.not_eq_true,List.any_eq_false]
  intro k hk
  rw [Bool.not_eq_true]
  obtain⟨h1,hkb⟩:=yp h (hin f hf0 g hgc).1 (hin f hf0 g hgc).2 hk
  have hkr:kK R k < 1000:=Nat.lt_trans h1 (hin f hf0 g hgc).2
  have h2:∀ x∈P.closure k,kK R x≤kK R k∧lo≤x∧x < hi:=o3 (S:=fun x=>kK R x≤kK R k∧lo≤x∧x < hi) (fun a ha b hb=>⟨Nat.le_trans (Nat.le_of_lt (yp h ha.2 (by omega) hb).1) ha.1,(yp h ha.2 (by omega) hb).2⟩) ⟨Nat.le_refl _,hkb⟩
  cases hc:(P.closure k).contains g with
  |false=>rfl
  |true=>
   have:=(h2 g (List.contains_iff_mem.1 hc)).1
   omega
 unfold Program.varsNamed
 have e1:((P.closure f).flatMap fun g=>((P.funcs[g]?).bind (·.body)).elim [] Code.globalsNamed)=[]:=by
  rw [List.flatMap_eq_nil_iff]
  intro g hgc
  have hg:=ns (h g (hin f hf0 g hgc).1) (hin f hf0 g hgc).2
  unfold T2 at hg
  cases hf:P.funcs[g]? with
  |none=>rfl
  |some fn=>
   rw [hf] at hg
   simp only [Bool.and_eq_true] at hg
   simp only [Option.bind_some]
   cases hb:fn.body with
   |none=>rfl
   |some c=>rw [hb] at hg;simp at hg⊢;exact hg.2.2.2
 have e2:((P.closure f).filterMap fun g=>(P.funcs[g]?).bind fun fn=>if fn.body.isNone then entryReads.lookup fn.name else none)=[]:=by
  rw [List.filterMap_eq_nil_iff]
  intro g hgc
  have hg:=ns (h g (hin f hf0 g hgc).1) (hin f hf0 g hgc).2
  unfold T2 at hg
  cases hf:P.funcs[g]? with
  |none=>rfl
  |some fn=>
   rw [hf] at hg
   simp only [Bool.and_eq_true] at hg
   simp only [Option.bind_some]
   cases hb:fn.body with
   |none=>rw [hb] at hg;simp at hg
   |some c=>rfl
 rw [e1,e2]
 rfl
theorem Bm {P:Program} {f:FuncId} {fn:Func} {s:ChangeSpec} {c:OpenClaim} (g:P.inPlace f=[]∧P.unfollowed f=false∧P.recurses f=false∧P.varsNamed f=[]) (c1:c.inPlace=[]) (c2:c.unfollowed=false) (c3:c.recurses=false) (c4:c.named=[])
  (m1:P.mayEnter=true) (m2:P.liftsFinal=false) (m3:P.make=some .cut) (d2:c.lifted=false) (d3:c.make=.cut) (h:uQ P f fn s c=true):joinedFacts P f fn s c=true:=by
 obtain⟨g1,g2,g3,g4⟩:=g
 unfold uQ at h
 unfold joinedFacts
 simp only [Bool.and_eq_true] at h⊢
 obtain⟨⟨⟨⟨⟨⟨⟨⟨⟨⟨⟨⟨⟨⟨⟨⟨⟨⟨⟨⟨⟨⟨⟨⟨k1,k2⟩,k3⟩,k4⟩,k5⟩,k6⟩,k7⟩,k8⟩,k9⟩,k14⟩,k15⟩,k16⟩,k17⟩,k17b⟩,k18⟩,k19⟩,k20⟩,k21⟩,k22⟩,k23⟩,k23b⟩,k25⟩,k26⟩,k27⟩,k28⟩:=h
 refine⟨⟨⟨⟨⟨⟨⟨⟨⟨⟨⟨⟨⟨⟨⟨⟨⟨⟨⟨⟨⟨⟨⟨⟨⟨⟨⟨⟨⟨⟨⟨k1,k2⟩,k3⟩,k4⟩,k5⟩,k6⟩,k7⟩,k8⟩,k9⟩,?_⟩,?_⟩,?_⟩,?_⟩,k14⟩,k15⟩,k16⟩,k17⟩,k17b⟩,k18⟩,k19⟩,k20⟩,k21⟩,k22⟩,k23⟩,k23b⟩,m1⟩,?_⟩,?_⟩,k25⟩,k26⟩,k27⟩,k28⟩
 ·rw [c1,g1];rfl
 ·rw [c2,g2];rfl
 ·rw [c3,g3];rfl
 ·rw [c4,g4];rfl
 ·rw [d2,m2];rfl
 rw [d3,m3];exact beq_self_eq_true _
end
section
open Go
def sF:Nat:=4127709296514965581574130207898135477016090583860908683816611082416418699306445256048521739119197038800133040607493888136482878208103614867012897715814327383968937771184328743299043727432674766419352034296194189775915105123969475293047942064567987957297746772036274141639756143335356454459961757787509386274028167290170246131744033739594570797354585001949071822530778719924940354914106281572781863363488089547028258024140349189318048278987666063170120712240749526075327643276220391292031336896819321013677037754123209363458104387510212956123100663545909959687419025493818178590660849905795661169957897195758119496797435787912940154068190295988193834433306309441611741002576257999632158580715036778986185081028624194807369837696392018307437665091664616222300008628503877977449765822556614231222086308138610323895409789901619308495286034686304374946829222880609672737256789539618474361372020835263858969252764648897897054969936028641130542336383816375451655683889803144669746003408824795384829433287363740816669912802580539021104906242122941374875731503349760
theorem YZ:(List.range' 3 16).all (o2 Tryz.prog sF 3 336)=true:=by kernel_rfl
theorem Y0:(List.range' 19 16).all (o2 Tryz.prog sF 3 336)=true:=by kernel_rfl
theorem Y1:(List.range' 35 16).all (o2 Tryz.prog sF 3 336)=true:=by kernel_rfl
theorem Y2:(List.range' 51 16).all (o2 Tryz.prog sF 3 336)=true:=by kernel_rfl
theorem Y3:(List.range' 67 16).all (o2 Tryz.prog sF 3 336)=true:=by kernel_rfl
theorem Y4:(List.range' 83 16).all (o2 Tryz.prog sF 3 336)=true:=by kernel_rfl
theorem Y5:(List.range' 99 16).all (o2 Tryz.prog sF 3 336)=true:=by kernel_rfl
theorem Y6:(List.range' 115 16).all (o2 Tryz.prog sF 3 336)=true:=by kernel_rfl
theorem Y7:(List.range' 131 16).all (o2 Tryz.prog sF 3 336)=true:=by kernel_rfl
theorem Y8:(List.range' 147 16).all (o2 Tryz.prog sF 3 336)=true:=by kernel_rfl
theorem T3:(List.range' 163 16).all (o2 Tryz.prog sF 3 336)=true:=by kernel_rfl
theorem T4:(List.range' 179 16).all (o2 Tryz.prog sF 3 336)=true:=by kernel_rfl
theorem T5:(List.range' 195 16).all (o2 Tryz.prog sF 3 336)=true:=by kernel_rfl
theorem T6:(List.range' 211 16).all (o2 Tryz.prog sF 3 336)=true:=by kernel_rfl
theorem T7:(List.range' 227 16).all (o2 Tryz.prog sF 3 336)=true:=by kernel_rfl
theorem T8:(List.range' 243 16).all (o2 Tryz.prog sF 3 336)=true:=by kernel_rfl
theorem T9:(List.range' 259 16).all (o2 Tryz.prog sF 3 336)=true:=by kernel_rfl
theorem T_:(List.range' 275 16).all (o2 Tryz.prog sF 3 336)=true:=by kernel_rfl
theorem Ua:(List.range' 291 16).all (o2 Tryz.prog sF 3 336)=true:=by kernel_rfl
theorem Ub:(List.range' 307 16).all (o2 Tryz.prog sF 3 336)=true:=by kernel_rfl
theorem Uc:(List.range' 323 13).all (o2 Tryz.prog sF 3 336)=true:=by kernel_rfl
theorem Nt (g:Nat) (h:3≤g∧g < 336):o2 Tryz.prog sF 3 336 g=true:=by
 rcases (by omega:(3≤g∧g < 19)∨(19≤g∧g < 35)∨(35≤g∧g < 51)∨(51≤g∧g < 67)∨(67≤g∧g < 83)∨(83≤g∧g < 99)∨(99≤g∧g < 115)∨(115≤g∧g < 131)∨(131≤g∧g < 147)∨(147≤g∧g < 163)∨(163≤g∧g < 179)∨(179≤g∧g < 195)∨(195≤g∧g < 211)∨(211≤g∧g < 227)∨(227≤g∧g < 243)∨(243≤g∧g < 259)∨(259≤g∧g < 275)∨(275≤g∧g < 291)∨(291≤g∧g < 307)∨(307≤g∧g < 323)∨(323≤g∧g < 336)) with h|h|h|h|h|h|h|h|h|h|h|h|h|h|h|h|h|h|h|h|h
 ·exact List.all_eq_true.1 YZ g (List.mem_range'_1.2 h)
 ·exact List.all_eq_true.1 Y0 g (List.mem_range'_1.2 h)
 ·exact List.all_eq_true.1 Y1 g (List.mem_range'_1.2 h)
 ·exact List.all_eq_true.1 Y2 g (List.mem_range'_1.2 h)
 ·exact List.all_eq_true.1 Y3 g (List.mem_range'_1.2 h)
 ·exact List.all_eq_true.1 Y4 g (List.mem_range'_1.2 h)
 ·exact List.all_eq_true.1 Y5 g (List.mem_range'_1.2 h)
 ·exact List.all_eq_true.1 Y6 g (List.mem_range'_1.2 h)
 ·exact List.all_eq_true.1 Y7 g (List.mem_range'_1.2 h)
 ·exact List.all_eq_true.1 Y8 g (List.mem_range'_1.2 h)
 ·exact List.all_eq_true.1 T3 g (List.mem_range'_1.2 h)
 ·exact List.all_eq_true.1 T4 g (List.mem_range'_1.2 h)
 ·exact List.all_eq_true.1 T5 g (List.mem_range'_1.2 h)
 ·exact List.all_eq_true.1 T6 g (List.mem_range'_1.2 h)
 ·exact List.all_eq_true.1 T7 g (List.mem_range'_1.2 h)
 ·exact List.all_eq_true.1 T8 g (List.mem_range'_1.2 h)
 ·exact List.all_eq_true.1 T9 g (List.mem_range'_1.2 h)
 ·exact List.all_eq_true.1 T_ g (List.mem_range'_1.2 h)
 ·exact List.all_eq_true.1 Ua g (List.mem_range'_1.2 h)
 ·exact List.all_eq_true.1 Ub g (List.mem_range'_1.2 h)
 exact List.all_eq_true.1 Uc g (List.mem_range'_1.2 h)
theorem Bo (f:Nat) (h:((Nat.ble 3 f && Nat.blt f 336) && Nat.blt (kK sF f) 1000)=true):Tryz.prog.inPlace f=[]∧Tryz.prog.unfollowed f=false∧Tryz.prog.recurses f=false∧Tryz.prog.varsNamed f=[]:=
 yq Nt f (by simpa only [Bool.and_eq_true,Nat.ble_eq,Nat.blt_eq] using h)
end
end Go.Proofs.YtbgakfbnkkfbkaaGreat
