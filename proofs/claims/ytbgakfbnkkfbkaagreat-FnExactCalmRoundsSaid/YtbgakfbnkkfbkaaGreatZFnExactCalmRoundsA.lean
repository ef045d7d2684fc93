/-
  Texts merged for this claim by shake.py: what its proof needs.
-/
import Derived.Tactics
import Derived.Below
import Derived.Laws.AppendOwn
import Derived.Laws.OwnMore
import Derived.Laws.Slices
import Derived.Laws.Small
import Derived.Laws.Strings
import Derived.KernelRfl
import Derived.Laws.MakeOwn
import Derived.Laws.BytesString
import Derived.Laws.BytesArg
import Derived.Laws.Build
import Derived.Laws.Concat
import Derived.Laws.StructEq
import Derived.Lib.ConvBytes
import Derived.Orders
import Derived.WalkKit
import Derived.ProofKit
import Derived.ShutString
import Derived.OpenShut
import Derived.ChangeOld
import Derived.Carry
import Derived.Test.YtbgakfbnkkfbkaaGreatChecked
import Derived.Laws.BitsLemmas
import Derived.JoinedOf
import Derived.Test.YtbgakfbnkkfbkaaGreatRows
import Derived.Test.YtbgakfbnkkfbkaaGreatZFnBaseA
import Derived.Test.YtbgakfbnkkfbkaaGreatZFnBaseB
import Derived.Test.YtbgakfbnkkfbkaaGreatZFnBaseC
import Derived.Test.YtbgakfbnkkfbkaaGreatZFnBaseD
import Derived.Test.YtbgakfbnkkfbkaaGreatZFnBaseE
import Derived.Test.YtbgakfbnkkfbkaaGreatZFnBaseF
import Derived.Test.YtbgakfbnkkfbkaaGreatZFnBaseG
import Derived.Test.YtbgakfbnkkfbkaaGreatZFnBaseH
import Derived.Test.YtbgakfbnkkfbkaaGreatZFnBaseI
import Derived.Test.YtbgakfbnkkfbkaaGreatZFnBaseJ
import Derived.Test.YtbgakfbnkkfbkaaGreatZFnBaseK
import Derived.Test.YtbgakfbnkkfbkaaGreatZFnBaseL
import Derived.Test.YtbgakfbnkkfbkaaGreatZFnBaseM
set_option maxHeartbeats 16000000
set_option maxRecDepth 100000
set_option linter.unusedVariables false
set_option linter.unusedSimpArgs false
namespace Go.Proofs.YtbgakfbnkkfbkaaGreat
section
open Go.RowKit
end
section
open Go.RowKit
end
section
open Go.RowKit
end
section
open Go.RowKit
section
variable {P:Program} {β:Be} {s:S} {a:Act} {w:World} {o:Oper} {r:OpR} {ty:TypeId}
end
end
section
open Go.RowKit
section
variable {P:Program} {β:Be} {s:S} {a:Act} {w:World} {o:Oper} {r:OpR} {ty:TypeId}
end
end
section
open Go.RowKit
section
variable {P:Program} {β:Be} {s:S} {a:Act} {w:World} {o:Oper} {r:OpR} {ty:TypeId}
end
end
section
open Go.RowKit
section
variable {P:Program} {β:Be} {s:S} {a:Act} {w:World} {o:Oper} {r:OpR} {ty:TypeId}
end
end
section
open Go.RowKit
section
variable {P:Program} {β:Be} {s:S} {a:Act} {w:World} {o:Oper} {r:OpR} {ty:TypeId}
end
end
section
open Go.RowKit
end
section
open Go.RowKit
end
section
open Go.RowKit
end
section
open Go.RowKit
section
variable {β β0':Be} {ρ:Rho} {N:Nat}
end
end
section
open Go.RowKit
section
variable {P:Program} {β:Be} {s:S} {w:World} {tm:Array Value}
end
end
section
end
section
open Go.RowKit
end
section
open Go.RowKit
end
section
open Go.RowKit
end
section
open Go.RowKit
end
section
open Go.RowKit
end
section
open Go.RowKit
end
section
open Go.RowKit
end
section
open Go.RowKit
end
section
open Go.RowKit
section
variable {P:Program} {E:Entry} {F:S→Prop} {c q:Prop}
end
end
section
open Go.ChangeShapes Go.WideShapes Go.ChangeAt Go.RowKit
section
variable {H:Type} {enc:TypeId×Value→H} {P:Program} {w:World} {base:Nat} {held:Bool}
end
end
section
open Go.ChangeShapes Go.WideShapes Go.ChangeAt Go.RowKit
end
section
end
section
open Go.RowKit
theorem dA {l:List (List UInt8)} {k:Nat} (h:k < l.length):(l.map TV)[k]? =some [.st l[k]]:=by simp [TV,h]
end
section
def iP (n:Nat) (acc:List UInt8):List UInt8:=
 if h:n < 10 then UInt8.ofNat (48+n)::acc else iP (n / 10) (UInt8.ofNat (48+n % 10)::acc)
termination_by n
decreasing_by omega
theorem Ew (n:Nat) (acc:List UInt8):acc.length < (iP n acc).length:=by
 induction n using Nat.strongRecOn generalizing acc with
 |_ n ih=>
  rw [iP]
  split
  ·simp
  have:=ih (n / 10) (by omega) (UInt8.ofNat (48+n % 10)::acc)
  simp only [List.length_cons] at this
  omega
theorem Ex (k:Nat):∀ (n:Nat) (acc:List UInt8),n < 10 ^ (k+1)→(iP n acc).length≤acc.length+(k+1):=by
 induction k with
 |zero=>
  intro n acc h
  rw [iP,dif_pos (by omega)]
  simp
 |succ k ih=>
  intro n acc h
  rw [iP]
  split
  ·simp
  have:=ih (n / 10) (UInt8.ofNat (48+n % 10)::acc) (by rw [Nat.pow_succ] at h;omega)
  simp only [List.length_cons] at this
  omega
theorem Ey {n:Int} (h:I64 n):(iP n.natAbs []).length≤20:=by
 have h': -9223372036854775808≤n∧n≤9223372036854775807:=h
 have:=Ex 19 n.natAbs [] (by omega)
 simpa using this
end
section
open Go.ChangeShapes Go.WideShapes Go.ChangeAt Go.RowKit
theorem EndD.wf_inp {x:EndD} (h:x.wf):x.inp.wf:=by
 obtain⟨_,_,_,_,_,_,_,_,_,_,_,_,_,h13,h14,_,_,_,_,_,_,_,h22,_,_,_,_,_,_,h29,_,_⟩:=h
 exact⟨h13,h14,h22,h29⟩
end
section
open Go.ChangeShapes Go.WideShapes Go.ChangeAt Go.RowKit
theorem WorldD.wf_a {x:WorldD} (h:x.wf):x.a.wf:=by
 obtain⟨h0,h1,h2,h3,h4,h5,h6,h7,h8,h9,h10,h11,h12,h13,h14,h15,h16,h17,_,_,_,_,_,_,_,_,_,_,_,_,_,_,_,_,_,_,_,_,_,_,h40,h41,h42,h43,h44,h45,h46,_,_,_,_,_,_,_,_,_,_,_,_,_,_,h61,h62,h63,h64,h65,h66,h67,_,_,_,_,_,_,_,_,_,_,_,_,_,_⟩:=h
 exact⟨h0,h1,h2,h3,h4,h5,h6,h7,h8,h9,h10,h11,h12,h13,h14,h15,h16,h17,h40,h41,h42,h43,h44,h45,h46,h61,h62,h63,h64,h65,h66,h67⟩
theorem WorldD.wf_b {x:WorldD} (h:x.wf):x.b.wf:=by
 obtain⟨_,_,_,_,_,_,_,_,_,_,_,_,_,_,_,_,_,_,h18,h19,h20,h21,h22,h23,h24,h25,h26,h27,h28,h29,h30,h31,h32,h33,h34,h35,_,_,_,_,_,_,_,_,_,_,_,h47,h48,h49,h50,h51,h52,h53,_,_,_,_,_,_,_,_,_,_,_,_,_,_,h68,h69,h70,h71,h72,h73,h74,_,_,_,_,_,_,_⟩:=h
 exact⟨h18,h19,h20,h21,h22,h23,h24,h25,h26,h27,h28,h29,h30,h31,h32,h33,h34,h35,h47,h48,h49,h50,h51,h52,h53,h68,h69,h70,h71,h72,h73,h74⟩
theorem WorldD.wf_known {x:WorldD} (h:x.wf):x.known.wf:=by
 obtain⟨_,_,_,_,_,_,_,_,_,_,_,_,_,_,_,_,_,_,_,_,_,_,_,_,_,_,_,_,_,_,_,_,_,_,_,_,_,_,_,_,_,_,_,_,_,_,_,_,_,_,_,_,_,_,_,_,h56,h57,_,_,_,_,_,_,_,_,_,_,_,_,_,_,_,_,_,_,_,h77,h78,_,_,_⟩:=h
 exact⟨h56,h57,h77,h78⟩
end
section
end
section
end
section
end
section
end
section
end
section
end
section
open Go.RowKit
end
section
open Go.RowKit
end
section
open Go.RowKit
end
section
open Go.RowKit
end
section
open Go.RowKit
end
section
open Go.RowKit
end
section
open Go.RowKit
end
section
open Go.RowKit
end
section
open Go.RowKit
end
section
open Go.RowKit
end
section
open Go.RowKit
end
section
open Go.RowKit
end
section
open Go.RowKit
end
section
open Go.RowKit
end
section
open Go.RowKit
end
section
open Go.RowKit
end
section
open Go.RowKit
theorem uk {α:Type} {m:Int} {f:α→Int} {l:List α} {k:Nat} (h:k < l.length):aU m ((l.drop k).map f)=if m - f l[k] < 0 then -1 else aU (m - f l[k]) ((l.drop (k+1)).map f):=by
 rw [List.drop_eq_getElem_cons h,List.map_cons,aU]
theorem oF (x:RoadD):ae Tryz.prog 293 [.ag x.cs] [] (.ag x.cs) []:=by
 refine qE Tryz.func293 Tryz.ntmps293 Tryz.results293 fun E hE=>?_
 exact qF []
theorem oG (x:RoadD):ae Tryz.prog 270 [.ag x.cs,.ag x.cs] [] (.sc (.bo true)) []:=by
 refine qE Tryz.func270 Tryz.ntmps270 Tryz.results270 fun E hE=>?_
 exact qF []
theorem sL (x:PolicyD):ae Tryz.prog 87 [.ag x.cs,.ag x.cs] [] (.sc (.bo true)) []:=by
 refine qE Tryz.func87 Tryz.ntmps87 Tryz.results87 fun E hE=>?_
 exact qF []
theorem sM (x:BucketD):ae Tryz.prog 133 [.ag x.cs] [] (.ag x.cs) []:=by
 refine qE Tryz.func133 Tryz.ntmps133 Tryz.results133 fun E hE=>?_
 exact qF []
theorem sN (x:BucketD):ae Tryz.prog 91 [.ag x.cs,.ag x.cs] [] (.sc (.bo true)) []:=by
 refine qE Tryz.func91 Tryz.ntmps91 Tryz.results91 fun E hE=>?_
 exact qF []
theorem xp (x:HalfD):ae Tryz.prog 222 [.ag x.cs] [] (.ag x.cs) []:=by
 refine qE Tryz.func222 Tryz.ntmps222 Tryz.results222 fun E hE=>?_
 refine qK (oF x.road) [] ?_
 exact qF []
theorem xq (x:HalfD):ae Tryz.prog 194 [.ag x.cs,.ag x.cs] [] (.sc (.bo true)) []:=by
 refine qE Tryz.func194 Tryz.ntmps194 Tryz.results194 fun E hE=>?_
 refine qK (oG x.road) [] ?_
 exact qF []
theorem yU (x:SubD):ae Tryz.prog 221 [.ag x.cs] [] (.ag x.cs) []:=by
 refine qE Tryz.func221 Tryz.ntmps221 Tryz.results221 fun E hE=>?_
 refine qK (oF x.road) [] ?_
 exact qF []
theorem yV (x:SubD):ae Tryz.prog 193 [.ag x.cs,.ag x.cs] [] (.sc (.bo true)) []:=by
 refine qE Tryz.func193 Tryz.ntmps193 Tryz.results193 fun E hE=>?_
 refine qK (oG x.road) [] ?_
 exact qF []
theorem vh (x:PieceD):ae Tryz.prog 294 [.ag x.cs] [] (.ag x.cs) []:=by
 refine qE Tryz.func294 Tryz.ntmps294 Tryz.results294 fun E hE=>?_
 exact qF []
theorem vi (x:PieceD):ae Tryz.prog 271 [.ag x.cs,.ag x.cs] [] (.sc (.bo true)) []:=by
 refine qE Tryz.func271 Tryz.ntmps271 Tryz.results271 fun E hE=>?_
 exact qF []
theorem yW (x:OutD):ae Tryz.prog 134 [.ag x.cs] [] (.ag x.cs) []:=by
 refine qE Tryz.func134 Tryz.ntmps134 Tryz.results134 fun E hE=>?_
 exact qF []
theorem yX (x:OutD):ae Tryz.prog 92 [.ag x.cs,.ag x.cs] [] (.sc (.bo true)) []:=by
 refine qE Tryz.func92 Tryz.ntmps92 Tryz.results92 fun E hE=>?_
 exact qF []
theorem vj (x:PieceD) (m:Int) (hx:x.text.length≤9223372036854775807) (h0:0≤m) (h:m≤1048576):ae Tryz.prog 272 [.ag x.cs,.sc (.int .i64 m)] [] (.sc (.int .i64 (aU m [(x.text.length:Int)]))) []:=by
 obtain⟨R,hR⟩:∃ R,R=aU m [(x.text.length:Int)]:=⟨_,rfl⟩
 rw [←hR]
 simp only [aU] at hR
 refine qE Tryz.func272 Tryz.ntmps272 Tryz.results272 fun E hE=>?_
 refine qB (fun h1=>?_) fun h1=>?_
 ·refine qJ [] ?_
  omega
 refine qJ [] ?_
 omega
theorem yY (x:OutD) (m:Int) (hx:x.text.length≤9223372036854775807) (h0:0≤m) (h:m≤1048576):ae Tryz.prog 108 [.ag x.cs,.sc (.int .i64 m)] [] (.sc (.int .i64 (aU m [(x.text.length:Int)]))) []:=by
 obtain⟨R,hR⟩:∃ R,R=aU m [(x.text.length:Int)]:=⟨_,rfl⟩
 rw [←hR]
 simp only [aU] at hR
 refine qE Tryz.func108 Tryz.ntmps108 Tryz.results108 fun E hE=>?_
 refine qB (fun h1=>?_) fun h1=>?_
 ·refine qJ [] ?_
  omega
 refine qJ [] ?_
 omega
end
section
open Go.RowKit
theorem dc {a b:List Int} (h:∀ n∈a,0≤n) (k:∀ n∈b,0≤n):∀ n∈a++b,0≤n:=fun n hn=>(List.mem_append.1 hn).elim (h n) (k n)
def aV (l:List Int):List Int:=[(l.length:Int)]
theorem dw (l:List Int):∀ n∈aV l,0≤n:=by
 intro n hn
 simp only [aV,List.mem_cons,List.mem_map,List.not_mem_nil,or_false] at hn
 omega
theorem fG (l:List Int) (hl:l.length≤1048576):ae Tryz.prog 63 [.sc (.sl 0 0 l.length)] [some ⟨l.map aC,1,3,false,true⟩] (.sc (.sl 1 0 l.length)) [some ⟨l.map aC,1,3,false,true⟩,some ⟨l.map aC,1,3,true,true⟩]:=by
 refine qE Tryz.func63 Tryz.ntmps63 Tryz.results63 fun E hE=>?_
 refine an 1 hE (fun s (k:Nat)=>s.at (qU [5,16]) [(4,.sc (.int .i64 (k:Nat)))] ([some ⟨l.map aC,1,3,false,true⟩,some ⟨(l.take k).map aC++List.replicate (l.length - k) [.int .i64 0],1,3,true,true⟩])) (fun (k:Nat)=>k≤l.length) (fun (k:Nat)=>l.length - k) 0 (qI 0 2) (qC) (Nat.zero_le _) (af (by rfl) (by rfl) ?_) fun k hk N hN=>?_
 ·try simp (disch:=omega) only [go_sem,seval]
  try simp
 refine qR ?_
 refine qB (fun h=>?_) fun h=>?_
 ·try simp (disch:=omega) only [go_sem,seval,cg h,bi]
  refine⟨by (try simp (disch:=omega) only [go_sem,List.length_set,seval,bi])<;>omega,hN _ (k+1) (qI 0 2) (by (try dsimp only);exact h) (by (try dsimp only);omega) (af (by rfl) (by rfl) ?_)⟩
  refine qX ?_
  first|exact bW h rfl|(rw [bW h rfl])
 have hk:k=l.length:=by omega
 subst hk
 refine qJ (qI 0 2) ?_
 rw [d9]
theorem fH (l:List Int) (hl:l.length≤4611686018427387904):ae Tryz.prog 17 [.sc (.sl 0 0 l.length),.sc (.sl 1 0 l.length)] [some ⟨l.map aC,1,3,false,true⟩,some ⟨l.map aC,1,3,false,true⟩] (.sc (.bo true)) [some ⟨l.map aC,1,3,false,true⟩,some ⟨l.map aC,1,3,false,true⟩]:=by
 refine qE Tryz.func17 Tryz.ntmps17 Tryz.results17 fun E hE=>?_
 refine an 2 hE (fun s (k:Nat)=>s.at (qU [4,1,6,20]) [(5,.sc (.int .i64 (k:Nat)))] (s.hp)) (fun (k:Nat)=>k≤l.length) (fun (k:Nat)=>l.length - k) 0 (qI 0 2) (qC) (Nat.zero_le _) (af (by rfl) (by rfl) ?_) fun k hk N hN=>?_
 ·exact qY
 refine qR ?_
 refine qB (fun h=>?_) fun h=>?_
 ·refine ar (qU [0,9]) (by kernel_rfl) (trivial) (by kernel_rfl) (aa 400 ?_)
  simp (disch:=omega) only [go_sem,seval]
  try simp (disch:=omega) only [go_sem,seval,dA h]
  refine qG ?_
  exact qN hN (k+1) (qI 0 2) (by (try dsimp only);exact h)
 exact qF (qI 0 2)
theorem fI (l:List Int) (m:Int) (hl:l.length≤9223372036854775807) (h0:0≤m) (h:m≤1048576):ae Tryz.prog 51 [.sc (.sl 0 0 l.length),.sc (.int .i64 m)] [some ⟨l.map aC,1,3,false,true⟩] (.sc (.int .i64 (aU m (aV l)))) [some ⟨l.map aC,1,3,false,true⟩]:=by
 obtain⟨R,hR⟩:∃ R,R=aU m (aV l):=⟨_,rfl⟩
 rw [←hR]
 simp only [aU,aV] at hR
 refine qE Tryz.func51 Tryz.ntmps51 Tryz.results51 fun E hE=>?_
 refine qB (fun h1=>?_) fun h1=>?_
 ·refine qJ (qI 0 1) ?_
  omega
 refine qJ (qI 0 1) ?_
 omega
def aR (l:List AddrD):List Int:=[(l.length:Int)]
theorem jB (l:List AddrD):∀ n∈aR l,0≤n:=by
 intro n hn
 simp only [aR,List.mem_cons,List.mem_map,List.not_mem_nil,or_false] at hn
 omega
theorem mL (l:List AddrD) (hl:l.length≤1048576):ae Tryz.prog 130 [.sc (.sl 0 0 l.length)] [some ⟨l.map AddrD.cs,4,76,false,true⟩] (.sc (.sl 1 0 l.length)) [some ⟨l.map AddrD.cs,4,76,false,true⟩,some ⟨l.map AddrD.cs,4,88,true,true⟩]:=by
 refine qE Tryz.func130 Tryz.ntmps130 Tryz.results130 fun E hE=>?_
 refine an 1 hE (fun s (k:Nat)=>s.at (qU [5,17]) [(4,.sc (.int .i64 (k:Nat)))] ([some ⟨l.map AddrD.cs,4,76,false,true⟩,some ⟨(l.take k).map AddrD.cs++List.replicate (l.length - k) [.int .i64 0,.int .i64 0,.bo false,.bo false],4,88,true,true⟩])) (fun (k:Nat)=>k≤l.length) (fun (k:Nat)=>l.length - k) 0 (qI 0 2) (qC) (Nat.zero_le _) (af (by rfl) (by rfl) ?_) fun k hk N hN=>?_
 ·try simp (disch:=omega) only [go_sem,seval]
  try simp
 refine qR ?_
 refine qB (fun h=>?_) fun h=>?_
 ·try simp (disch:=omega) only [go_sem,seval,cg h,bi]
  refine qK (oH l[k]) [] ?_
  try simp (disch:=omega) only [go_sem,seval,cg h,bi]
  refine⟨by (try simp (disch:=omega) only [go_sem,List.length_set,seval,bi])<;>omega,hN _ (k+1) (qI 0 2) (by (try dsimp only);exact h) (by (try dsimp only);omega) (af (by rfl) (by rfl) ?_)⟩
  refine qX ?_
  first|exact bW h rfl|(rw [bW h rfl])
 have hk:k=l.length:=by omega
 subst hk
 refine qJ (qI 0 2) ?_
 rw [d9]
theorem mM (l:List AddrD) (hl:l.length≤4611686018427387904):ae Tryz.prog 88 [.sc (.sl 0 0 l.length),.sc (.sl 1 0 l.length)] [some ⟨l.map AddrD.cs,4,88,false,true⟩,some ⟨l.map AddrD.cs,4,88,false,true⟩] (.sc (.bo true)) [some ⟨l.map AddrD.cs,4,88,false,true⟩,some ⟨l.map AddrD.cs,4,88,false,true⟩]:=by
 refine qE Tryz.func88 Tryz.ntmps88 Tryz.results88 fun E hE=>?_
 refine an 2 hE (fun s (k:Nat)=>s.at (qU [4,1,6,21]) [(5,.sc (.int .i64 (k:Nat)))] (s.hp)) (fun (k:Nat)=>k≤l.length) (fun (k:Nat)=>l.length - k) 0 (qI 0 2) (qC) (Nat.zero_le _) (af (by rfl) (by rfl) ?_) fun k hk N hN=>?_
 ·exact qY
 refine qR ?_
 refine qB (fun h=>?_) fun h=>?_
 ·refine ar (qU [0,10]) (by kernel_rfl) (trivial) (by kernel_rfl) (aa 400 ?_)
  simp (disch:=omega) only [go_sem,seval]
  refine az (xo l[k]) [] ?_
  refine qG ?_
  exact qN hN (k+1) (qI 0 2) (by (try dsimp only);exact h)
 exact qF (qI 0 2)
theorem mN (l:List AddrD) (m:Int) (hl:l.length≤9223372036854775807) (h0:0≤m) (h:m≤1048576):ae Tryz.prog 105 [.sc (.sl 0 0 l.length),.sc (.int .i64 m)] [some ⟨l.map AddrD.cs,4,76,false,true⟩] (.sc (.int .i64 (aU m (aR l)))) [some ⟨l.map AddrD.cs,4,76,false,true⟩]:=by
 obtain⟨R,hR⟩:∃ R,R=aU m (aR l):=⟨_,rfl⟩
 rw [←hR]
 simp only [aU,aR] at hR
 refine qE Tryz.func105 Tryz.ntmps105 Tryz.results105 fun E hE=>?_
 refine qB (fun h1=>?_) fun h1=>?_
 ·refine qJ (qI 0 1) ?_
  omega
 refine qJ (qI 0 1) ?_
 omega
def aW (l:List HalfD):List Int:=[(l.length:Int)]
theorem qm (l:List HalfD):∀ n∈aW l,0≤n:=by
 intro n hn
 simp only [aW,List.mem_cons,List.mem_map,List.not_mem_nil,or_false] at hn
 omega
theorem vk (l:List HalfD) (hl:l.length≤1048576):ae Tryz.prog 132 [.sc (.sl 0 0 l.length)] [some ⟨l.map HalfD.cs,8,242,false,true⟩] (.sc (.sl 1 0 l.length)) [some ⟨l.map HalfD.cs,8,242,false,true⟩,some ⟨l.map HalfD.cs,8,213,true,true⟩]:=by
 refine qE Tryz.func132 Tryz.ntmps132 Tryz.results132 fun E hE=>?_
 refine an 1 hE (fun s (k:Nat)=>s.at (qU [5,17]) [(4,.sc (.int .i64 (k:Nat)))] ([some ⟨l.map HalfD.cs,8,242,false,true⟩,some ⟨(l.take k).map HalfD.cs++List.replicate (l.length - k) [.int .i64 0,.int .i64 0,.int .i64 0,.int .i64 0,.int .i64 0,.int .i64 0,.int .i64 0,.int .i64 0],8,213,true,true⟩])) (fun (k:Nat)=>k≤l.length) (fun (k:Nat)=>l.length - k) 0 (qI 0 2) (qC) (Nat.zero_le _) (af (by rfl) (by rfl) ?_) fun k hk N hN=>?_
 ·try simp (disch:=omega) only [go_sem,seval]
  try simp
 refine qR ?_
 refine qB (fun h=>?_) fun h=>?_
 ·try simp (disch:=omega) only [go_sem,seval,cg h,bi]
  refine qK (xp l[k]) [] ?_
  try simp (disch:=omega) only [go_sem,seval,cg h,bi]
  refine⟨by (try simp (disch:=omega) only [go_sem,List.length_set,seval,bi])<;>omega,hN _ (k+1) (qI 0 2) (by (try dsimp only);exact h) (by (try dsimp only);omega) (af (by rfl) (by rfl) ?_)⟩
  refine qX ?_
  first|exact bW h rfl|(rw [bW h rfl])
 have hk:k=l.length:=by omega
 subst hk
 refine qJ (qI 0 2) ?_
 rw [d9]
theorem vm (l:List HalfD) (hl:l.length≤4611686018427387904):ae Tryz.prog 90 [.sc (.sl 0 0 l.length),.sc (.sl 1 0 l.length)] [some ⟨l.map HalfD.cs,8,213,false,true⟩,some ⟨l.map HalfD.cs,8,213,false,true⟩] (.sc (.bo true)) [some ⟨l.map HalfD.cs,8,213,false,true⟩,some ⟨l.map HalfD.cs,8,213,false,true⟩]:=by
 refine qE Tryz.func90 Tryz.ntmps90 Tryz.results90 fun E hE=>?_
 refine an 2 hE (fun s (k:Nat)=>s.at (qU [4,1,6,21]) [(5,.sc (.int .i64 (k:Nat)))] (s.hp)) (fun (k:Nat)=>k≤l.length) (fun (k:Nat)=>l.length - k) 0 (qI 0 2) (qC) (Nat.zero_le _) (af (by rfl) (by rfl) ?_) fun k hk N hN=>?_
 ·exact qY
 refine qR ?_
 refine qB (fun h=>?_) fun h=>?_
 ·refine ar (qU [0,10]) (by kernel_rfl) (trivial) (by kernel_rfl) (aa 400 ?_)
  simp (disch:=omega) only [go_sem,seval]
  refine az (xq l[k]) [] ?_
  refine qG ?_
  exact qN hN (k+1) (qI 0 2) (by (try dsimp only);exact h)
 exact qF (qI 0 2)
theorem vn (l:List HalfD) (m:Int) (hl:l.length≤9223372036854775807) (h0:0≤m) (h:m≤1048576):ae Tryz.prog 107 [.sc (.sl 0 0 l.length),.sc (.int .i64 m)] [some ⟨l.map HalfD.cs,8,242,false,true⟩] (.sc (.int .i64 (aU m (aW l)))) [some ⟨l.map HalfD.cs,8,242,false,true⟩]:=by
 obtain⟨R,hR⟩:∃ R,R=aU m (aW l):=⟨_,rfl⟩
 rw [←hR]
 simp only [aU,aW] at hR
 refine qE Tryz.func107 Tryz.ntmps107 Tryz.results107 fun E hE=>?_
 refine qB (fun h1=>?_) fun h1=>?_
 ·refine qJ (qI 0 1) ?_
  omega
 refine qJ (qI 0 1) ?_
 omega
def bD (l:List TagD):List Int:=[(l.length:Int)]
theorem ul (l:List TagD):∀ n∈bD l,0≤n:=by
 intro n hn
 simp only [bD,List.mem_cons,List.mem_map,List.not_mem_nil,or_false] at hn
 omega
theorem xr (l:List TagD) (hl:l.length≤1048576):ae Tryz.prog 136 [.sc (.sl 0 0 l.length)] [some ⟨l.map TagD.cs,5,78,false,true⟩] (.sc (.sl 1 0 l.length)) [some ⟨l.map TagD.cs,5,78,false,true⟩,some ⟨l.map TagD.cs,5,89,true,true⟩]:=by
 refine qE Tryz.func136 Tryz.ntmps136 Tryz.results136 fun E hE=>?_
 refine an 1 hE (fun s (k:Nat)=>s.at (qU [5,17]) [(4,.sc (.int .i64 (k:Nat)))] ([some ⟨l.map TagD.cs,5,78,false,true⟩,some ⟨(l.take k).map TagD.cs++List.replicate (l.length - k) [.int .i64 0,.int .i64 0,.int .i64 0,.int .i64 0,.int .i64 0],5,89,true,true⟩])) (fun (k:Nat)=>k≤l.length) (fun (k:Nat)=>l.length - k) 0 (qI 0 2) (qC) (Nat.zero_le _) (af (by rfl) (by rfl) ?_) fun k hk N hN=>?_
 ·try simp (disch:=omega) only [go_sem,seval]
  try simp
 refine qR ?_
 refine qB (fun h=>?_) fun h=>?_
 ·try simp (disch:=omega) only [go_sem,seval,cg h,bi]
  refine qK (qk l[k]) [] ?_
  try simp (disch:=omega) only [go_sem,seval,cg h,bi]
  refine⟨by (try simp (disch:=omega) only [go_sem,List.length_set,seval,bi])<;>omega,hN _ (k+1) (qI 0 2) (by (try dsimp only);exact h) (by (try dsimp only);omega) (af (by rfl) (by rfl) ?_)⟩
  refine qX ?_
  first|exact bW h rfl|(rw [bW h rfl])
 have hk:k=l.length:=by omega
 subst hk
 refine qJ (qI 0 2) ?_
 rw [d9]
theorem xt (l:List TagD) (hl:l.length≤4611686018427387904):ae Tryz.prog 94 [.sc (.sl 0 0 l.length),.sc (.sl 1 0 l.length)] [some ⟨l.map TagD.cs,5,89,false,true⟩,some ⟨l.map TagD.cs,5,89,false,true⟩] (.sc (.bo true)) [some ⟨l.map TagD.cs,5,89,false,true⟩,some ⟨l.map TagD.cs,5,89,false,true⟩]:=by
 refine qE Tryz.func94 Tryz.ntmps94 Tryz.results94 fun E hE=>?_
 refine an 2 hE (fun s (k:Nat)=>s.at (qU [4,1,6,21]) [(5,.sc (.int .i64 (k:Nat)))] (s.hp)) (fun (k:Nat)=>k≤l.length) (fun (k:Nat)=>l.length - k) 0 (qI 0 2) (qC) (Nat.zero_le _) (af (by rfl) (by rfl) ?_) fun k hk N hN=>?_
 ·exact qY
 refine qR ?_
 refine qB (fun h=>?_) fun h=>?_
 ·refine ar (qU [0,10]) (by kernel_rfl) (trivial) (by kernel_rfl) (aa 400 ?_)
  simp (disch:=omega) only [go_sem,seval]
  refine az (ql l[k]) [] ?_
  refine qG ?_
  exact qN hN (k+1) (qI 0 2) (by (try dsimp only);exact h)
 exact qF (qI 0 2)
theorem xu (l:List TagD) (m:Int) (hl:l.length≤9223372036854775807) (h0:0≤m) (h:m≤1048576):ae Tryz.prog 110 [.sc (.sl 0 0 l.length),.sc (.int .i64 m)] [some ⟨l.map TagD.cs,5,78,false,true⟩] (.sc (.int .i64 (aU m (bD l)))) [some ⟨l.map TagD.cs,5,78,false,true⟩]:=by
 obtain⟨R,hR⟩:∃ R,R=aU m (bD l):=⟨_,rfl⟩
 rw [←hR]
 simp only [aU,bD] at hR
 refine qE Tryz.func110 Tryz.ntmps110 Tryz.results110 fun E hE=>?_
 refine qB (fun h1=>?_) fun h1=>?_
 ·refine qJ (qI 0 1) ?_
  omega
 refine qJ (qI 0 1) ?_
 omega
def aJ (l:List LetterD):List Int:=(l.length:Int)::l.map fun y=>(y.text.length:Int)
theorem hZ (l:List LetterD):∀ n∈aJ l,0≤n:=by
 intro n hn
 simp only [aJ,List.mem_cons,List.mem_map,List.not_mem_nil,or_false] at hn
 rcases hn with rfl|⟨y,_,rfl⟩<;>omega
theorem kr (l:List LetterD) (hl:l.length≤1048576):ae Tryz.prog 61 [.sc (.sl 0 0 l.length)] [some ⟨l.map LetterD.cs,19,80,false,true⟩] (.sc (.sl 1 0 l.length)) [some ⟨l.map LetterD.cs,19,80,false,true⟩,some ⟨l.map LetterD.cs,19,91,true,true⟩]:=by
 refine qE Tryz.func61 Tryz.ntmps61 Tryz.results61 fun E hE=>?_
 refine an 1 hE (fun s (k:Nat)=>s.at (qU [5,17]) [(4,.sc (.int .i64 (k:Nat)))] ([some ⟨l.map LetterD.cs,19,80,false,true⟩,some ⟨(l.take k).map LetterD.cs++List.replicate (l.length - k) [.int .i64 0,.int .i64 0,.int .i64 0,.int .i64 0,.int .i64 0,.int .i64 0,.int .i64 0,.int .i64 0,.int .i64 0,.int .i64 0,.int .i64 0,.int .i64 0,.int .i64 0,.int .i64 0,.int .i64 0,.int .i64 0,.bo false,.int .i64 0,.st []],19,91,true,true⟩])) (fun (k:Nat)=>k≤l.length) (fun (k:Nat)=>l.length - k) 0 (qI 0 2) (qC) (Nat.zero_le _) (af (by rfl) (by rfl) ?_) fun k hk N hN=>?_
 ·try simp (disch:=omega) only [go_sem,seval]
  try simp
 refine qR ?_
 refine qB (fun h=>?_) fun h=>?_
 ·try simp (disch:=omega) only [go_sem,seval,cg h,bi]
  refine qK (lz l[k]) [] ?_
  try simp (disch:=omega) only [go_sem,seval,cg h,bi]
  refine⟨by (try simp (disch:=omega) only [go_sem,List.length_set,seval,bi])<;>omega,hN _ (k+1) (qI 0 2) (by (try dsimp only);exact h) (by (try dsimp only);omega) (af (by rfl) (by rfl) ?_)⟩
  refine qX ?_
  first|exact bW h rfl|(rw [bW h rfl])
 have hk:k=l.length:=by omega
 subst hk
 refine qJ (qI 0 2) ?_
 rw [d9]
theorem ks (l:List LetterD) (hl:l.length≤4611686018427387904):ae Tryz.prog 39 [.sc (.sl 0 0 l.length),.sc (.sl 1 0 l.length)] [some ⟨l.map LetterD.cs,19,91,false,true⟩,some ⟨l.map LetterD.cs,19,91,false,true⟩] (.sc (.bo true)) [some ⟨l.map LetterD.cs,19,91,false,true⟩,some ⟨l.map LetterD.cs,19,91,false,true⟩]:=by
 refine qE Tryz.func39 Tryz.ntmps39 Tryz.results39 fun E hE=>?_
 refine an 2 hE (fun s (k:Nat)=>s.at (qU [4,1,6,21]) [(5,.sc (.int .i64 (k:Nat)))] (s.hp)) (fun (k:Nat)=>k≤l.length) (fun (k:Nat)=>l.length - k) 0 (qI 0 2) (qC) (Nat.zero_le _) (af (by rfl) (by rfl) ?_) fun k hk N hN=>?_
 ·exact qY
 refine qR ?_
 refine qB (fun h=>?_) fun h=>?_
 ·refine ar (qU [0,10]) (by kernel_rfl) (trivial) (by kernel_rfl) (aa 400 ?_)
  simp (disch:=omega) only [go_sem,seval]
  refine az (sO l[k]) [] ?_
  refine qG ?_
  exact qN hN (k+1) (qI 0 2) (by (try dsimp only);exact h)
 exact qF (qI 0 2)
theorem kt (l:List LetterD) (m:Int) (hw:∀ y∈l,y.wf) (hl:l.length≤9223372036854775807) (h0:0≤m) (h:m≤1048576):ae Tryz.prog 49 [.sc (.sl 0 0 l.length),.sc (.int .i64 m)] [some ⟨l.map LetterD.cs,19,80,false,true⟩] (.sc (.int .i64 (aU m (aJ l)))) [some ⟨l.map LetterD.cs,19,80,false,true⟩]:=by
 obtain⟨R,hR⟩:∃ R,R=aU m (aJ l):=⟨_,rfl⟩
 rw [←hR]
 simp only [aU,aJ] at hR
 refine qE Tryz.func49 Tryz.ntmps49 Tryz.results49 fun E hE=>?_
 refine qB (fun h1=>?_) fun h1=>?_
 ·refine qJ (qI 0 1) ?_
  omega
 rw [if_neg (by omega)] at hR
 have hs:R=aU (m - l.length) ((l.drop 0).map fun y=>(y.text.length:Int)):=hR
 refine an 1 hE (fun s (x:Nat×Int)=>s.at (qU [4,1,6,20]) [(5,.sc (.int .i64 (x.1:Nat))),(1,.sc (.int .i64 x.2))] (s.hp)) (fun (x:Nat×Int)=>x.1≤l.length∧0≤x.2∧x.2≤1048576∧R=aU x.2 ((l.drop x.1).map fun y=>(y.text.length:Int))) (fun (x:Nat×Int)=>l.length - x.1) (0,m - l.length) (qI 0 1) (qC) (⟨Nat.zero_le _,by omega,by omega,hs⟩) (af (by rfl) (by rfl) ?_) fun x hx N hN=>?_
 ·exact qY
 obtain⟨k,r⟩:=x
 obtain⟨hk1,hk2,hk3,hk4⟩:=hx
 dsimp only at hk1 hk2 hk3 hk4
 refine qR ?_
 refine qB (fun h2=>?_) fun h2=>?_
 ·rw [uk h2] at hk4
  have hwf:l[k].wf:=hw _ (List.getElem_mem h2)
  have hlx:l[k].text.length≤9223372036854775807:=(fun h=>h.2.2.2.2.2.2.2.2.2.2.2.2.2.2.2.2.2) hwf
  refine qK (lA l[k] r hlx hk2 hk3) [] ?_
  have eg:aU r [(l[k].text.length:Int)]=(if r - (l[k].text.length:Int) < 0 then -1 else r - (l[k].text.length:Int)):=rfl
  generalize aU r [(l[k].text.length:Int)]=g at eg
  by_cases h3:r - (l[k].text.length:Int) < 0
  ·rw [if_pos h3] at eg hk4
   subst eg
   refine qX ?_
   refine qJ (qI 0 1) ?_
   omega
  rw [if_neg h3] at eg hk4
  subst eg
  refine qX ?_
  exact qN hN (k+1,r - (l[k].text.length:Int)) (qI 0 1) (by (try dsimp only);exact⟨by omega,by omega,by omega,hk4⟩)
 refine qJ (qI 0 1) ?_
 rw [List.drop_eq_nil_of_le (by omega)] at hk4
 exact hk4.symm
def bj (l:List SubD):List Int:=[(l.length:Int)]
theorem um (l:List SubD):∀ n∈bj l,0≤n:=by
 intro n hn
 simp only [bj,List.mem_cons,List.mem_map,List.not_mem_nil,or_false] at hn
 omega
theorem xv (l:List SubD) (hl:l.length≤1048576):ae Tryz.prog 131 [.sc (.sl 0 0 l.length)] [some ⟨l.map SubD.cs,10,239,false,true⟩] (.sc (.sl 1 0 l.length)) [some ⟨l.map SubD.cs,10,239,false,true⟩,some ⟨l.map SubD.cs,10,201,true,true⟩]:=by
 refine qE Tryz.func131 Tryz.ntmps131 Tryz.results131 fun E hE=>?_
 refine an 1 hE (fun s (k:Nat)=>s.at (qU [5,17]) [(4,.sc (.int .i64 (k:Nat)))] ([some ⟨l.map SubD.cs,10,239,false,true⟩,some ⟨(l.take k).map SubD.cs++List.replicate (l.length - k) [.int .i64 0,.int .i64 0,.int .i64 0,.int .i64 0,.bo false,.int .i64 0,.int .i64 0,.int .i64 0,.int .i64 0,.int .i64 0],10,201,true,true⟩])) (fun (k:Nat)=>k≤l.length) (fun (k:Nat)=>l.length - k) 0 (qI 0 2) (qC) (Nat.zero_le _) (af (by rfl) (by rfl) ?_) fun k hk N hN=>?_
 ·try simp (disch:=omega) only [go_sem,seval]
  try simp
 refine qR ?_
 refine qB (fun h=>?_) fun h=>?_
 ·try simp (disch:=omega) only [go_sem,seval,cg h,bi]
  refine qK (yU l[k]) [] ?_
  try simp (disch:=omega) only [go_sem,seval,cg h,bi]
  refine⟨by (try simp (disch:=omega) only [go_sem,List.length_set,seval,bi])<;>omega,hN _ (k+1) (qI 0 2) (by (try dsimp only);exact h) (by (try dsimp only);omega) (af (by rfl) (by rfl) ?_)⟩
  refine qX ?_
  first|exact bW h rfl|(rw [bW h rfl])
 have hk:k=l.length:=by omega
 subst hk
 refine qJ (qI 0 2) ?_
 rw [d9]
theorem xw (l:List SubD) (hl:l.length≤4611686018427387904):ae Tryz.prog 89 [.sc (.sl 0 0 l.length),.sc (.sl 1 0 l.length)] [some ⟨l.map SubD.cs,10,201,false,true⟩,some ⟨l.map SubD.cs,10,201,false,true⟩] (.sc (.bo true)) [some ⟨l.map SubD.cs,10,201,false,true⟩,some ⟨l.map SubD.cs,10,201,false,true⟩]:=by
 refine qE Tryz.func89 Tryz.ntmps89 Tryz.results89 fun E hE=>?_
 refine an 2 hE (fun s (k:Nat)=>s.at (qU [4,1,6,21]) [(5,.sc (.int .i64 (k:Nat)))] (s.hp)) (fun (k:Nat)=>k≤l.length) (fun (k:Nat)=>l.length - k) 0 (qI 0 2) (qC) (Nat.zero_le _) (af (by rfl) (by rfl) ?_) fun k hk N hN=>?_
 ·exact qY
 refine qR ?_
 refine qB (fun h=>?_) fun h=>?_
 ·refine ar (qU [0,10]) (by kernel_rfl) (trivial) (by kernel_rfl) (aa 400 ?_)
  simp (disch:=omega) only [go_sem,seval]
  refine az (yV l[k]) [] ?_
  refine qG ?_
  exact qN hN (k+1) (qI 0 2) (by (try dsimp only);exact h)
 exact qF (qI 0 2)
theorem xx (l:List SubD) (m:Int) (hl:l.length≤9223372036854775807) (h0:0≤m) (h:m≤1048576):ae Tryz.prog 106 [.sc (.sl 0 0 l.length),.sc (.int .i64 m)] [some ⟨l.map SubD.cs,10,239,false,true⟩] (.sc (.int .i64 (aU m (bj l)))) [some ⟨l.map SubD.cs,10,239,false,true⟩]:=by
 obtain⟨R,hR⟩:∃ R,R=aU m (bj l):=⟨_,rfl⟩
 rw [←hR]
 simp only [aU,bj] at hR
 refine qE Tryz.func106 Tryz.ntmps106 Tryz.results106 fun E hE=>?_
 refine qB (fun h1=>?_) fun h1=>?_
 ·refine qJ (qI 0 1) ?_
  omega
 refine qJ (qI 0 1) ?_
 omega
def ax (l:List PieceD):List Int:=(l.length:Int)::l.map fun y=>(y.text.length:Int)
theorem oI (l:List PieceD):∀ n∈ax l,0≤n:=by
 intro n hn
 simp only [ax,List.mem_cons,List.mem_map,List.not_mem_nil,or_false] at hn
 rcases hn with rfl|⟨y,_,rfl⟩<;>omega
theorem sP (l:List PieceD) (hl:l.length≤1048576):ae Tryz.prog 223 [.sc (.sl 0 0 l.length)] [some ⟨l.map PieceD.cs,2,264,false,true⟩] (.sc (.sl 1 0 l.length)) [some ⟨l.map PieceD.cs,2,264,false,true⟩,some ⟨l.map PieceD.cs,2,256,true,true⟩]:=by
 refine qE Tryz.func223 Tryz.ntmps223 Tryz.results223 fun E hE=>?_
 refine an 1 hE (fun s (k:Nat)=>s.at (qU [5,17]) [(4,.sc (.int .i64 (k:Nat)))] ([some ⟨l.map PieceD.cs,2,264,false,true⟩,some ⟨(l.take k).map PieceD.cs++List.replicate (l.length - k) [.int .i64 0,.st []],2,256,true,true⟩])) (fun (k:Nat)=>k≤l.length) (fun (k:Nat)=>l.length - k) 0 (qI 0 2) (qC) (Nat.zero_le _) (af (by rfl) (by rfl) ?_) fun k hk N hN=>?_
 ·try simp (disch:=omega) only [go_sem,seval]
  try simp
 refine qR ?_
 refine qB (fun h=>?_) fun h=>?_
 ·try simp (disch:=omega) only [go_sem,seval,cg h,bi]
  refine qK (vh l[k]) [] ?_
  try simp (disch:=omega) only [go_sem,seval,cg h,bi]
  refine⟨by (try simp (disch:=omega) only [go_sem,List.length_set,seval,bi])<;>omega,hN _ (k+1) (qI 0 2) (by (try dsimp only);exact h) (by (try dsimp only);omega) (af (by rfl) (by rfl) ?_)⟩
  refine qX ?_
  first|exact bW h rfl|(rw [bW h rfl])
 have hk:k=l.length:=by omega
 subst hk
 refine qJ (qI 0 2) ?_
 rw [d9]
theorem sQ (l:List PieceD) (hl:l.length≤4611686018427387904):ae Tryz.prog 195 [.sc (.sl 0 0 l.length),.sc (.sl 1 0 l.length)] [some ⟨l.map PieceD.cs,2,256,false,true⟩,some ⟨l.map PieceD.cs,2,256,false,true⟩] (.sc (.bo true)) [some ⟨l.map PieceD.cs,2,256,false,true⟩,some ⟨l.map PieceD.cs,2,256,false,true⟩]:=by
 refine qE Tryz.func195 Tryz.ntmps195 Tryz.results195 fun E hE=>?_
 refine an 2 hE (fun s (k:Nat)=>s.at (qU [4,1,6,21]) [(5,.sc (.int .i64 (k:Nat)))] (s.hp)) (fun (k:Nat)=>k≤l.length) (fun (k:Nat)=>l.length - k) 0 (qI 0 2) (qC) (Nat.zero_le _) (af (by rfl) (by rfl) ?_) fun k hk N hN=>?_
 ·exact qY
 refine qR ?_
 refine qB (fun h=>?_) fun h=>?_
 ·refine ar (qU [0,10]) (by kernel_rfl) (trivial) (by kernel_rfl) (aa 400 ?_)
  simp (disch:=omega) only [go_sem,seval]
  refine az (vi l[k]) [] ?_
  refine qG ?_
  exact qN hN (k+1) (qI 0 2) (by (try dsimp only);exact h)
 exact qF (qI 0 2)
theorem sR (l:List PieceD) (m:Int) (hw:∀ y∈l,y.wf) (hl:l.length≤9223372036854775807) (h0:0≤m) (h:m≤1048576):ae Tryz.prog 198 [.sc (.sl 0 0 l.length),.sc (.int .i64 m)] [some ⟨l.map PieceD.cs,2,264,false,true⟩] (.sc (.int .i64 (aU m (ax l)))) [some ⟨l.map PieceD.cs,2,264,false,true⟩]:=by
 obtain⟨R,hR⟩:∃ R,R=aU m (ax l):=⟨_,rfl⟩
 rw [←hR]
 simp only [aU,ax] at hR
 refine qE Tryz.func198 Tryz.ntmps198 Tryz.results198 fun E hE=>?_
 refine qB (fun h1=>?_) fun h1=>?_
 ·refine qJ (qI 0 1) ?_
  omega
 rw [if_neg (by omega)] at hR
 have hs:R=aU (m - l.length) ((l.drop 0).map fun y=>(y.text.length:Int)):=hR
 refine an 1 hE (fun s (x:Nat×Int)=>s.at (qU [4,1,6,20]) [(5,.sc (.int .i64 (x.1:Nat))),(1,.sc (.int .i64 x.2))] (s.hp)) (fun (x:Nat×Int)=>x.1≤l.length∧0≤x.2∧x.2≤1048576∧R=aU x.2 ((l.drop x.1).map fun y=>(y.text.length:Int))) (fun (x:Nat×Int)=>l.length - x.1) (0,m - l.length) (qI 0 1) (qC) (⟨Nat.zero_le _,by omega,by omega,hs⟩) (af (by rfl) (by rfl) ?_) fun x hx N hN=>?_
 ·exact qY
 obtain⟨k,r⟩:=x
 obtain⟨hk1,hk2,hk3,hk4⟩:=hx
 dsimp only at hk1 hk2 hk3 hk4
 refine qR ?_
 refine qB (fun h2=>?_) fun h2=>?_
 ·rw [uk h2] at hk4
  have hwf:l[k].wf:=hw _ (List.getElem_mem h2)
  have hlx:l[k].text.length≤9223372036854775807:=(fun h=>h.2) hwf
  refine qK (vj l[k] r hlx hk2 hk3) [] ?_
  have eg:aU r [(l[k].text.length:Int)]=(if r - (l[k].text.length:Int) < 0 then -1 else r - (l[k].text.length:Int)):=rfl
  generalize aU r [(l[k].text.length:Int)]=g at eg
  by_cases h3:r - (l[k].text.length:Int) < 0
  ·rw [if_pos h3] at eg hk4
   subst eg
   refine qX ?_
   refine qJ (qI 0 1) ?_
   omega
  rw [if_neg h3] at eg hk4
  subst eg
  refine qX ?_
  exact qN hN (k+1,r - (l[k].text.length:Int)) (qI 0 1) (by (try dsimp only);exact⟨by omega,by omega,by omega,hk4⟩)
 refine qJ (qI 0 1) ?_
 rw [List.drop_eq_nil_of_le (by omega)] at hk4
 exact hk4.symm
end
section
open Go.RowKit
def PiecesD.szL (x:PiecesD):List Int:=[(x.ready.length:Int)]++(ax x.list++[])
theorem PiecesD.szL_nn (x:PiecesD):∀ n∈x.szL,0≤n:=by
 rw [PiecesD.szL]
 exact (dc (by simp) (dc (oI _) (by simp)))
theorem sS (x:PiecesD) (m:Int) (hx:x.wf) (h0:0≤m) (hm:m≤1048576):ae Tryz.prog 109 [.ag (x.cs 0),.sc (.int .i64 m)] x.hpL (.sc (.int .i64 (aU m x.szL))) x.hpL:=by
 obtain⟨R,hR⟩:∃ R,R=aU m x.szL:=⟨_,rfl⟩
 rw [←hR]
 simp only [PiecesD.szL] at hR
 have hx':=hx
 obtain⟨w0,w1,w2,w3⟩:=hx'
 simp only [maxLen] at w1 w3
 refine qE Tryz.func109 Tryz.ntmps109 Tryz.results109 fun E hE=>?_
 have e0:aU m [(x.ready.length:Int)]=(if m - (x.ready.length:Int) < 0 then -1 else m - (x.ready.length:Int)):=rfl
 generalize hr0:aU m [(x.ready.length:Int)]=r0 at e0
 have b0:=bL h0 (by simp) hr0
 refine qB (fun t0=>?_) fun t0=>?_
 ·refine qJ (qI 0 1) ?_
  rw [hR,bI h0 hr0 (by split at e0<;>omega)]
 rw [bJ h0 hr0 (by split at e0<;>omega)] at hR
 have q0:m - (x.ready.length:Int)=r0:=by split at e0<;>omega
 rw [q0]
 have hl0:0≤r0:=by omega
 have hm0:r0≤1048576:=by omega
 refine qK (sR x.list r0 w2 w3 hl0 hm0) (qI 0 1) ?_
 generalize hr1:aU r0 (ax x.list)=r1
 have b1:=bL hl0 (oI _) hr1
 refine qB (fun t1=>?_) fun t1=>?_
 ·refine qJ (qI 0 1) ?_
  rw [hR,bI hl0 hr1 t1]
 rw [bJ hl0 hr1 t1] at hR
 have hl1:0≤r1:=by omega
 have hm1:r1≤1048576:=by omega
 refine qJ (qI 0 1) ?_
 rw [hR,aU]
theorem PiecesD.sz_le {x:PiecesD} {m r:Int} (hm0:0≤m) (hm:m≤1048576) (h:aU m x.szL=r) (h0:0≤r):x.list.length≤1048576:=by
 have k:=fc hm0 x.szL_nn (by rw [h];exact h0)
 exact by have:=k (x.list.length:Int) (by simp [PiecesD.szL,ax]);omega
theorem PiecesD.str_le {x:PiecesD} {m r:Int} (hm0:0≤m) (hm:m≤1048576) (h:aU m x.szL=r) (h0:0≤r):x.ready.length≤1048576:=by
 have k:=fc hm0 x.szL_nn (by rw [h];exact h0)
 exact by have:=k (x.ready.length:Int) (by simp [PiecesD.szL,ax]);omega
theorem sT (x:PiecesD) (hl0:x.list.length≤1048576):ae Tryz.prog 135 [.ag (x.cs 0)] x.hpL (.ag (x.cs 1)) (x.hpL++x.hp true):=by
 refine qE Tryz.func135 Tryz.ntmps135 Tryz.results135 fun E hE=>?_
 refine qK (sP x.list hl0) (qI 0 1) ?_
 exact qF (qI 0 1++qI 4 1)
theorem sU (x:PiecesD) (hl0:x.list.length≤4611686018427387904):ae Tryz.prog 93 [.ag (x.cs 0),.ag (x.cs 1)] (x.hp false++x.hp false) (.sc (.bo true)) (x.hp false++x.hp false):=by
 refine qE Tryz.func93 Tryz.ntmps93 Tryz.results93 fun E hE=>?_
 refine qK (sQ x.list hl0) (qI 0 2) ?_
 exact qF (qI 0 2)
def KnownD.szL (x:KnownD):List Int:=aV x.keys++(bD x.tags++[])
theorem KnownD.szL_nn (x:KnownD):∀ n∈x.szL,0≤n:=by
 rw [KnownD.szL]
 exact (dc (dw _) (dc (ul _) (by simp)))
theorem vo (x:KnownD) (m:Int) (hx:x.wf) (h0:0≤m) (hm:m≤1048576):ae Tryz.prog 50 [.ag (x.cs 0),.sc (.int .i64 m)] x.hpL (.sc (.int .i64 (aU m x.szL))) x.hpL:=by
 obtain⟨R,hR⟩:∃ R,R=aU m x.szL:=⟨_,rfl⟩
 rw [←hR]
 simp only [KnownD.szL] at hR
 have hx':=hx
 obtain⟨w0,w1,w2,w3⟩:=hx'
 simp only [maxLen] at w2 w3
 refine qE Tryz.func50 Tryz.ntmps50 Tryz.results50 fun E hE=>?_
 refine qK (fI x.keys m w2 h0 hm) (qI 0 1) ?_
 generalize hr0:aU m (aV x.keys)=r0
 have b0:=bL h0 (dw _) hr0
 refine qB (fun t0=>?_) fun t0=>?_
 ·refine qJ (qI 0 2) ?_
  rw [hR,bI h0 hr0 t0]
 rw [bJ h0 hr0 t0] at hR
 have hl0:0≤r0:=by omega
 have hm0:r0≤1048576:=by omega
 refine qK (xu x.tags r0 w3 hl0 hm0) (qI 1 1) ?_
 generalize hr1:aU r0 (bD x.tags)=r1
 have b1:=bL hl0 (ul _) hr1
 refine qB (fun t1=>?_) fun t1=>?_
 ·refine qJ (qI 0 2) ?_
  rw [hR,bI hl0 hr1 t1]
 rw [bJ hl0 hr1 t1] at hR
 have hl1:0≤r1:=by omega
 have hm1:r1≤1048576:=by omega
 refine qJ (qI 0 2) ?_
 rw [hR,aU]
theorem KnownD.sz_le {x:KnownD} {m r:Int} (hm0:0≤m) (hm:m≤1048576) (h:aU m x.szL=r) (h0:0≤r):x.keys.length≤1048576∧x.tags.length≤1048576:=by
 have k:=fc hm0 x.szL_nn (by rw [h];exact h0)
 exact⟨by have:=k (x.keys.length:Int) (by simp [KnownD.szL,bD,aV]);omega,by have:=k (x.tags.length:Int) (by simp [KnownD.szL,bD,aV]);omega⟩
theorem vp (x:KnownD) (hl0:x.keys.length≤1048576) (hl1:x.tags.length≤1048576):ae Tryz.prog 62 [.ag (x.cs 0)] x.hpL (.ag (x.cs 2)) (x.hpL++x.hp true):=by
 refine qE Tryz.func62 Tryz.ntmps62 Tryz.results62 fun E hE=>?_
 refine qK (fG x.keys hl0) (qI 0 1) ?_
 refine qK (xr x.tags hl1) (qI 1 1) ?_
 exact qF (qI 0 2++qI 5 2)
theorem vq (x:KnownD) (hl0:x.keys.length≤4611686018427387904) (hl1:x.tags.length≤4611686018427387904):ae Tryz.prog 40 [.ag (x.cs 0),.ag (x.cs 2)] (x.hp false++x.hp false) (.sc (.bo true)) (x.hp false++x.hp false):=by
 refine qE Tryz.func40 Tryz.ntmps40 Tryz.results40 fun E hE=>?_
 refine qK (fH x.keys hl0) (qI 0 1++qI 2 1) ?_
 refine qK (xt x.tags hl1) (qI 1 1++qI 3 1) ?_
 exact qF (qI 0 4)
def EndD.szL (x:EndD):List Int:=aR x.own++(aR x.far++(bj x.subs++(aW x.halfs++([(x.out.text.length:Int)]++(PiecesD.szL x.inp++(aV x.done++(aV x.over++[])))))))
theorem EndD.szL_nn (x:EndD):∀ n∈x.szL,0≤n:=by
 rw [EndD.szL]
 exact (dc (jB _) (dc (jB _) (dc (um _) (dc (qm _) (dc (by simp) (dc (PiecesD.szL_nn _) (dc (dw _) (dc (dw _) (by simp)))))))))
theorem qo (x:EndD) (m:Int) (hx:x.wf) (h0:0≤m) (hm:m≤1048576):ae Tryz.prog 48 [.ag (x.cs 0),.sc (.int .i64 m)] x.hpL (.sc (.int .i64 (aU m x.szL))) x.hpL:=by
 obtain⟨R,hR⟩:∃ R,R=aU m x.szL:=⟨_,rfl⟩
 rw [←hR]
 simp only [EndD.szL] at hR
 have hx':=hx
 obtain⟨w0,w1,w2,w3,w4,w5,w6,w7,w8,w9,w10,w11,w12,w13,w14,w15,w16,w17,w18,w19,w20,w21,w22,w23,w24,w25,w26,w27,w28,w29,w30,w31⟩:=hx'
 simp only [maxLen] at w9 w14 w25 w26 w27 w28 w29 w30 w31
 refine qE Tryz.func48 Tryz.ntmps48 Tryz.results48 fun E hE=>?_
 refine qK (mN x.own m w25 h0 hm) (qI 0 1) ?_
 generalize hr0:aU m (aR x.own)=r0
 have b0:=bL h0 (jB _) hr0
 refine qB (fun t0=>?_) fun t0=>?_
 ·refine qJ (qI 0 7) ?_
  rw [hR,bI h0 hr0 t0]
 rw [bJ h0 hr0 t0] at hR
 have hl0:0≤r0:=by omega
 have hm0:r0≤1048576:=by omega
 refine qK (mN x.far r0 w26 hl0 hm0) (qI 1 1) ?_
 generalize hr1:aU r0 (aR x.far)=r1
 have b1:=bL hl0 (jB _) hr1
 refine qB (fun t1=>?_) fun t1=>?_
 ·refine qJ (qI 0 7) ?_
  rw [hR,bI hl0 hr1 t1]
 rw [bJ hl0 hr1 t1] at hR
 have hl1:0≤r1:=by omega
 have hm1:r1≤1048576:=by omega
 refine qK (xx x.subs r1 w27 hl1 hm1) (qI 2 1) ?_
 generalize hr2:aU r1 (bj x.subs)=r2
 have b2:=bL hl1 (um _) hr2
 refine qB (fun t2=>?_) fun t2=>?_
 ·refine qJ (qI 0 7) ?_
  rw [hR,bI hl1 hr2 t2]
 rw [bJ hl1 hr2 t2] at hR
 have hl2:0≤r2:=by omega
 have hm2:r2≤1048576:=by omega
 refine qK (vn x.halfs r2 w28 hl2 hm2) (qI 3 1) ?_
 generalize hr3:aU r2 (aW x.halfs)=r3
 have b3:=bL hl2 (qm _) hr3
 refine qB (fun t3=>?_) fun t3=>?_
 ·refine qJ (qI 0 7) ?_
  rw [hR,bI hl2 hr3 t3]
 rw [bJ hl2 hr3 t3] at hR
 have hl3:0≤r3:=by omega
 have hm3:r3≤1048576:=by omega
 refine qK (yY x.out r3 w9 hl3 hm3) [] ?_
 generalize hr4:aU r3 ([(x.out.text.length:Int)])=r4
 have b4:=bL hl3 (by simp) hr4
 refine qB (fun t4=>?_) fun t4=>?_
 ·refine qJ (qI 0 7) ?_
  rw [hR,bI hl3 hr4 t4]
 rw [bJ hl3 hr4 t4] at hR
 have hl4:0≤r4:=by omega
 have hm4:r4≤1048576:=by omega
 refine qK (sS x.inp r4 (EndD.wf_inp hx) hl4 hm4) (qI 4 1) ?_
 generalize hr5:aU r4 (PiecesD.szL x.inp)=r5
 have b5:=bL hl4 (PiecesD.szL_nn _) hr5
 refine qB (fun t5=>?_) fun t5=>?_
 ·refine qJ (qI 0 7) ?_
  rw [hR,bI hl4 hr5 t5]
 rw [bJ hl4 hr5 t5] at hR
 have hl5:0≤r5:=by omega
 have hm5:r5≤1048576:=by omega
 refine qK (fI x.done r5 w30 hl5 hm5) (qI 5 1) ?_
 generalize hr6:aU r5 (aV x.done)=r6
 have b6:=bL hl5 (dw _) hr6
 refine qB (fun t6=>?_) fun t6=>?_
 ·refine qJ (qI 0 7) ?_
  rw [hR,bI hl5 hr6 t6]
 rw [bJ hl5 hr6 t6] at hR
 have hl6:0≤r6:=by omega
 have hm6:r6≤1048576:=by omega
 refine qK (fI x.over r6 w31 hl6 hm6) (qI 6 1) ?_
 generalize hr7:aU r6 (aV x.over)=r7
 have b7:=bL hl6 (dw _) hr7
 refine qB (fun t7=>?_) fun t7=>?_
 ·refine qJ (qI 0 7) ?_
  rw [hR,bI hl6 hr7 t7]
 rw [bJ hl6 hr7 t7] at hR
 have hl7:0≤r7:=by omega
 have hm7:r7≤1048576:=by omega
 refine qJ (qI 0 7) ?_
 rw [hR,aU]
theorem EndD.sz_le {x:EndD} {m r:Int} (hm0:0≤m) (hm:m≤1048576) (h:aU m x.szL=r) (h0:0≤r):x.own.length≤1048576∧x.far.length≤1048576∧x.subs.length≤1048576∧x.halfs.length≤1048576∧x.inp.list.length≤1048576∧x.done.length≤1048576∧x.over.length≤1048576:=by
 have k:=fc hm0 x.szL_nn (by rw [h];exact h0)
 exact⟨by have:=k (x.own.length:Int) (by simp [PiecesD.szL,EndD.szL,aR,aW,ax,bj,aV]);omega,by have:=k (x.far.length:Int) (by simp [PiecesD.szL,EndD.szL,aR,aW,ax,bj,aV]);omega,by have:=k (x.subs.length:Int) (by simp [PiecesD.szL,EndD.szL,aR,aW,ax,bj,aV]);omega,by have:=k (x.halfs.length:Int) (by simp [PiecesD.szL,EndD.szL,aR,aW,ax,bj,aV]);omega,by have:=k (x.inp.list.length:Int) (by simp [PiecesD.szL,EndD.szL,aR,aW,ax,bj,aV]);omega,by have:=k (x.done.length:Int) (by simp [PiecesD.szL,EndD.szL,aR,aW,ax,bj,aV]);omega,by have:=k (x.over.length:Int) (by simp [PiecesD.szL,EndD.szL,aR,aW,ax,bj,aV]);omega⟩
theorem EndD.str_le {x:EndD} {m r:Int} (hm0:0≤m) (hm:m≤1048576) (h:aU m x.szL=r) (h0:0≤r):x.out.text.length≤1048576∧x.inp.ready.length≤1048576:=by
 have k:=fc hm0 x.szL_nn (by rw [h];exact h0)
 exact⟨by have:=k (x.out.text.length:Int) (by simp [PiecesD.szL,EndD.szL,aR,aW,ax,bj,aV]);omega,by have:=k (x.inp.ready.length:Int) (by simp [PiecesD.szL,EndD.szL,aR,aW,ax,bj,aV]);omega⟩
theorem qp (x:EndD) (hl0:x.own.length≤1048576) (hl1:x.far.length≤1048576) (hl2:x.subs.length≤1048576) (hl3:x.halfs.length≤1048576) (hl4:x.inp.list.length≤1048576) (hl5:x.done.length≤1048576) (hl6:x.over.length≤1048576):ae Tryz.prog 60 [.ag (x.cs 0)] x.hpL (.ag (x.cs 7)) (x.hpL++x.hp true):=by
 refine qE Tryz.func60 Tryz.ntmps60 Tryz.results60 fun E hE=>?_
 refine qK (sK x.policy) [] ?_
 refine qK (mL x.own hl0) (qI 0 1) ?_
 refine qK (mL x.far hl1) (qI 1 1) ?_
 refine qK (xv x.subs hl2) (qI 2 1) ?_
 refine qK (vk x.halfs hl3) (qI 3 1) ?_
 refine qK (sM x.bucket) [] ?_
 refine qK (yW x.out) [] ?_
 refine qK (sT x.inp hl4) (qI 4 1) ?_
 refine qK (fG x.done hl5) (qI 5 1) ?_
 refine qK (fG x.over hl6) (qI 6 1) ?_
 exact qF (qI 0 7++qI 10 7)
theorem qq (x:EndD) (hl0:x.own.length≤4611686018427387904) (hl1:x.far.length≤4611686018427387904) (hl2:x.subs.length≤4611686018427387904) (hl3:x.halfs.length≤4611686018427387904) (hl4:x.inp.list.length≤4611686018427387904) (hl5:x.done.length≤4611686018427387904) (hl6:x.over.length≤4611686018427387904):ae Tryz.prog 38 [.ag (x.cs 0),.ag (x.cs 7)] (x.hp false++x.hp false) (.sc (.bo true)) (x.hp false++x.hp false):=by
 refine qE Tryz.func38 Tryz.ntmps38 Tryz.results38 fun E hE=>?_
 refine qK (sL x.policy) [] ?_
 refine qK (mM x.own hl0) (qI 0 1++qI 7 1) ?_
 refine qK (mM x.far hl1) (qI 1 1++qI 8 1) ?_
 refine qK (xw x.subs hl2) (qI 2 1++qI 9 1) ?_
 refine qK (vm x.halfs hl3) (qI 3 1++qI 10 1) ?_
 refine qK (sN x.bucket) [] ?_
 refine qK (yX x.out) [] ?_
 refine qK (sU x.inp hl4) (qI 4 1++qI 11 1) ?_
 refine qK (fH x.done hl5) (qI 5 1++qI 12 1) ?_
 refine qK (fH x.over hl6) (qI 6 1++qI 13 1) ?_
 exact qF (qI 0 14)
end
section
open Go.RowKit
def WorldD.szL (x:WorldD):List Int:=EndD.szL x.a++(EndD.szL x.b++(aJ x.bag++(aJ x.past++([(x.wroteA.length:Int)]++([(x.wroteB.length:Int)]++([(x.readA.length:Int)]++([(x.readB.length:Int)]++(KnownD.szL x.known++(aV x.nums++(aV x.answersA++(aV x.answersB++[])))))))))))
theorem WorldD.szL_nn (x:WorldD):∀ n∈x.szL,0≤n:=by
 rw [WorldD.szL]
 exact (dc (EndD.szL_nn _) (dc (EndD.szL_nn _) (dc (hZ _) (dc (hZ _) (dc (by simp) (dc (by simp) (dc (by simp) (dc (by simp) (dc (KnownD.szL_nn _) (dc (dw _) (dc (dw _) (dc (dw _) (by simp)))))))))))))
theorem vr (x:WorldD) (m:Int) (hx:x.wf) (h0:0≤m) (hm:m≤1048576):ae Tryz.prog 23 [.ag (x.cs 0),.sc (.int .i64 m)] x.hpL (.sc (.int .i64 (aU m x.szL))) x.hpL:=by
 obtain⟨R,hR⟩:∃ R,R=aU m x.szL:=⟨_,rfl⟩
 rw [←hR]
 simp only [WorldD.szL] at hR
 have hx':=hx
 obtain⟨w0,w1,w2,w3,w4,w5,w6,w7,w8,w9,w10,w11,w12,w13,w14,w15,w16,w17,w18,w19,w20,w21,w22,w23,w24,w25,w26,w27,w28,w29,w30,w31,w32,w33,w34,w35,w36,w37,w38,w39,w40,w41,w42,w43,w44,w45,w46,w47,w48,w49,w50,w51,w52,w53,w54,w55,w56,w57,w58,w59,w60,w61,w62,w63,AO,w65,w66,w67,w68,w69,w70,w71,w72,w73,w74,w75,w76,w77,w78,w79,w80,w81⟩:=hx'
 simp only [maxLen] at w9 w14 w27 w32 w36 w37 w38 w39 w61 w62 w63 AO w65 w66 w67 w68 w69 w70 w71 w72 w73 w74 w75 w76 w77 w78 w79 w80 w81
 refine qE Tryz.func23 Tryz.ntmps23 Tryz.results23 fun E hE=>?_
 refine qK (qo x.a m (WorldD.wf_a hx) h0 hm) (qI 0 7) ?_
 generalize hr0:aU m (EndD.szL x.a)=r0
 have b0:=bL h0 (EndD.szL_nn _) hr0
 refine qB (fun t0=>?_) fun t0=>?_
 ·refine qJ (qI 0 21) ?_
  rw [hR,bI h0 hr0 t0]
 rw [bJ h0 hr0 t0] at hR
 have hl0:0≤r0:=by omega
 have hm0:r0≤1048576:=by omega
 refine qK (qo x.b r0 (WorldD.wf_b hx) hl0 hm0) (qI 7 7) ?_
 generalize hr1:aU r0 (EndD.szL x.b)=r1
 have b1:=bL hl0 (EndD.szL_nn _) hr1
 refine qB (fun t1=>?_) fun t1=>?_
 ·refine qJ (qI 0 21) ?_
  rw [hR,bI hl0 hr1 t1]
 rw [bJ hl0 hr1 t1] at hR
 have hl1:0≤r1:=by omega
 have hm1:r1≤1048576:=by omega
 refine qK (kt x.bag r1 w54 w75 hl1 hm1) (qI 14 1) ?_
 generalize hr2:aU r1 (aJ x.bag)=r2
 have b2:=bL hl1 (hZ _) hr2
 refine qB (fun t2=>?_) fun t2=>?_
 ·refine qJ (qI 0 21) ?_
  rw [hR,bI hl1 hr2 t2]
 rw [bJ hl1 hr2 t2] at hR
 have hl2:0≤r2:=by omega
 have hm2:r2≤1048576:=by omega
 refine qK (kt x.past r2 w55 w76 hl2 hm2) (qI 15 1) ?_
 generalize hr3:aU r2 (aJ x.past)=r3
 have b3:=bL hl2 (hZ _) hr3
 refine qB (fun t3=>?_) fun t3=>?_
 ·refine qJ (qI 0 21) ?_
  rw [hR,bI hl2 hr3 t3]
 rw [bJ hl2 hr3 t3] at hR
 have hl3:0≤r3:=by omega
 have hm3:r3≤1048576:=by omega
 have e4:aU r3 [(x.wroteA.length:Int)]=(if r3 - (x.wroteA.length:Int) < 0 then -1 else r3 - (x.wroteA.length:Int)):=rfl
 generalize hr4:aU r3 [(x.wroteA.length:Int)]=r4 at e4
 have b4:=bL hl3 (by simp) hr4
 refine qB (fun t4=>?_) fun t4=>?_
 ·refine qJ (qI 0 21) ?_
  rw [hR,bI hl3 hr4 (by split at e4<;>omega)]
 rw [bJ hl3 hr4 (by split at e4<;>omega)] at hR
 have q4:r3 - (x.wroteA.length:Int)=r4:=by split at e4<;>omega
 rw [q4]
 have hl4:0≤r4:=by omega
 have hm4:r4≤1048576:=by omega
 have e5:aU r4 [(x.wroteB.length:Int)]=(if r4 - (x.wroteB.length:Int) < 0 then -1 else r4 - (x.wroteB.length:Int)):=rfl
 generalize hr5:aU r4 [(x.wroteB.length:Int)]=r5 at e5
 have b5:=bL hl4 (by simp) hr5
 refine qB (fun t5=>?_) fun t5=>?_
 ·refine qJ (qI 0 21) ?_
  rw [hR,bI hl4 hr5 (by split at e5<;>omega)]
 rw [bJ hl4 hr5 (by split at e5<;>omega)] at hR
 have q5:r4 - (x.wroteB.length:Int)=r5:=by split at e5<;>omega
 rw [q5]
 have hl5:0≤r5:=by omega
 have hm5:r5≤1048576:=by omega
 have e6:aU r5 [(x.readA.length:Int)]=(if r5 - (x.readA.length:Int) < 0 then -1 else r5 - (x.readA.length:Int)):=rfl
 generalize hr6:aU r5 [(x.readA.length:Int)]=r6 at e6
 have b6:=bL hl5 (by simp) hr6
 refine qB (fun t6=>?_) fun t6=>?_
 ·refine qJ (qI 0 21) ?_
  rw [hR,bI hl5 hr6 (by split at e6<;>omega)]
 rw [bJ hl5 hr6 (by split at e6<;>omega)] at hR
 have q6:r5 - (x.readA.length:Int)=r6:=by split at e6<;>omega
 rw [q6]
 have hl6:0≤r6:=by omega
 have hm6:r6≤1048576:=by omega
 have e7:aU r6 [(x.readB.length:Int)]=(if r6 - (x.readB.length:Int) < 0 then -1 else r6 - (x.readB.length:Int)):=rfl
 generalize hr7:aU r6 [(x.readB.length:Int)]=r7 at e7
 have b7:=bL hl6 (by simp) hr7
 refine qB (fun t7=>?_) fun t7=>?_
 ·refine qJ (qI 0 21) ?_
  rw [hR,bI hl6 hr7 (by split at e7<;>omega)]
 rw [bJ hl6 hr7 (by split at e7<;>omega)] at hR
 have q7:r6 - (x.readB.length:Int)=r7:=by split at e7<;>omega
 rw [q7]
 have hl7:0≤r7:=by omega
 have hm7:r7≤1048576:=by omega
 refine qK (vo x.known r7 (WorldD.wf_known hx) hl7 hm7) (qI 16 2) ?_
 generalize hr8:aU r7 (KnownD.szL x.known)=r8
 have b8:=bL hl7 (KnownD.szL_nn _) hr8
 refine qB (fun t8=>?_) fun t8=>?_
 ·refine qJ (qI 0 21) ?_
  rw [hR,bI hl7 hr8 t8]
 rw [bJ hl7 hr8 t8] at hR
 have hl8:0≤r8:=by omega
 have hm8:r8≤1048576:=by omega
 refine qK (fI x.nums r8 w79 hl8 hm8) (qI 18 1) ?_
 generalize hr9:aU r8 (aV x.nums)=r9
 have b9:=bL hl8 (dw _) hr9
 refine qB (fun t9=>?_) fun t9=>?_
 ·refine qJ (qI 0 21) ?_
  rw [hR,bI hl8 hr9 t9]
 rw [bJ hl8 hr9 t9] at hR
 have hl9:0≤r9:=by omega
 have hm9:r9≤1048576:=by omega
 refine qK (fI x.answersA r9 w80 hl9 hm9) (qI 19 1) ?_
 generalize hr10:aU r9 (aV x.answersA)=r10
 have b10:=bL hl9 (dw _) hr10
 refine qB (fun t10=>?_) fun t10=>?_
 ·refine qJ (qI 0 21) ?_
  rw [hR,bI hl9 hr10 t10]
 rw [bJ hl9 hr10 t10] at hR
 have hl10:0≤r10:=by omega
 have hm10:r10≤1048576:=by omega
 refine qK (fI x.answersB r10 w81 hl10 hm10) (qI 20 1) ?_
 generalize hr11:aU r10 (aV x.answersB)=r11
 have b11:=bL hl10 (dw _) hr11
 refine qB (fun t11=>?_) fun t11=>?_
 ·refine qJ (qI 0 21) ?_
  rw [hR,bI hl10 hr11 t11]
 rw [bJ hl10 hr11 t11] at hR
 have hl11:0≤r11:=by omega
 have hm11:r11≤1048576:=by omega
 refine qJ (qI 0 21) ?_
 rw [hR,aU]
theorem WorldD.sz_le {x:WorldD} {m r:Int} (hm0:0≤m) (hm:m≤1048576) (h:aU m x.szL=r) (h0:0≤r):x.a.own.length≤1048576∧x.a.far.length≤1048576∧x.a.subs.length≤1048576∧x.a.halfs.length≤1048576∧x.a.inp.list.length≤1048576∧x.a.done.length≤1048576∧x.a.over.length≤1048576∧x.b.own.length≤1048576∧x.b.far.length≤1048576∧x.b.subs.length≤1048576∧x.b.halfs.length≤1048576∧x.b.inp.list.length≤1048576∧x.b.done.length≤1048576∧x.b.over.length≤1048576∧x.bag.length≤1048576∧x.past.length≤1048576∧x.known.keys.length≤1048576∧x.known.tags.length≤1048576∧x.nums.length≤1048576∧x.answersA.length≤1048576∧x.answersB.length≤1048576:=by
 have k:=fc hm0 x.szL_nn (by rw [h];exact h0)
 exact⟨by have:=k (x.a.own.length:Int) (by simp [PiecesD.szL,KnownD.szL,EndD.szL,WorldD.szL,aR,aW,aJ,ax,bj,bD,aV]);omega,by have:=k (x.a.far.length:Int) (by simp [PiecesD.szL,KnownD.szL,EndD.szL,WorldD.szL,aR,aW,aJ,ax,bj,bD,aV]);omega,by have:=k (x.a.subs.length:Int) (by simp [PiecesD.szL,KnownD.szL,EndD.szL,WorldD.szL,aR,aW,aJ,ax,bj,bD,aV]);omega,by have:=k (x.a.halfs.length:Int) (by simp [PiecesD.szL,KnownD.szL,EndD.szL,WorldD.szL,aR,aW,aJ,ax,bj,bD,aV]);omega,by have:=k (x.a.inp.list.length:Int) (by simp [PiecesD.szL,KnownD.szL,EndD.szL,WorldD.szL,aR,aW,aJ,ax,bj,bD,aV]);omega,by have:=k (x.a.done.length:Int) (by simp [PiecesD.szL,KnownD.szL,EndD.szL,WorldD.szL,aR,aW,aJ,ax,bj,bD,aV]);omega,by have:=k (x.a.over.length:Int) (by simp [PiecesD.szL,KnownD.szL,EndD.szL,WorldD.szL,aR,aW,aJ,ax,bj,bD,aV]);omega,by have:=k (x.b.own.length:Int) (by simp [PiecesD.szL,KnownD.szL,EndD.szL,WorldD.szL,aR,aW,aJ,ax,bj,bD,aV]);omega,by have:=k (x.b.far.length:Int) (by simp [PiecesD.szL,KnownD.szL,EndD.szL,WorldD.szL,aR,aW,aJ,ax,bj,bD,aV]);omega,by have:=k (x.b.subs.length:Int) (by simp [PiecesD.szL,KnownD.szL,EndD.szL,WorldD.szL,aR,aW,aJ,ax,bj,bD,aV]);omega,by have:=k (x.b.halfs.length:Int) (by simp [PiecesD.szL,KnownD.szL,EndD.szL,WorldD.szL,aR,aW,aJ,ax,bj,bD,aV]);omega,by have:=k (x.b.inp.list.length:Int) (by simp [PiecesD.szL,KnownD.szL,EndD.szL,WorldD.szL,aR,aW,aJ,ax,bj,bD,aV]);omega,by have:=k (x.b.done.length:Int) (by simp [PiecesD.szL,KnownD.szL,EndD.szL,WorldD.szL,aR,aW,aJ,ax,bj,bD,aV]);omega,by have:=k (x.b.over.length:Int) (by simp [PiecesD.szL,KnownD.szL,EndD.szL,WorldD.szL,aR,aW,aJ,ax,bj,bD,aV]);omega,by have:=k (x.bag.length:Int) (by simp [PiecesD.szL,KnownD.szL,EndD.szL,WorldD.szL,aR,aW,aJ,ax,bj,bD,aV]);omega,by have:=k (x.past.length:Int) (by simp [PiecesD.szL,KnownD.szL,EndD.szL,WorldD.szL,aR,aW,aJ,ax,bj,bD,aV]);omega,by have:=k (x.known.keys.length:Int) (by simp [PiecesD.szL,KnownD.szL,EndD.szL,WorldD.szL,aR,aW,aJ,ax,bj,bD,aV]);omega,by have:=k (x.known.tags.length:Int) (by simp [PiecesD.szL,KnownD.szL,EndD.szL,WorldD.szL,aR,aW,aJ,ax,bj,bD,aV]);omega,by have:=k (x.nums.length:Int) (by simp [PiecesD.szL,KnownD.szL,EndD.szL,WorldD.szL,aR,aW,aJ,ax,bj,bD,aV]);omega,by have:=k (x.answersA.length:Int) (by simp [PiecesD.szL,KnownD.szL,EndD.szL,WorldD.szL,aR,aW,aJ,ax,bj,bD,aV]);omega,by have:=k (x.answersB.length:Int) (by simp [PiecesD.szL,KnownD.szL,EndD.szL,WorldD.szL,aR,aW,aJ,ax,bj,bD,aV]);omega⟩
theorem WorldD.str_le {x:WorldD} {m r:Int} (hm0:0≤m) (hm:m≤1048576) (h:aU m x.szL=r) (h0:0≤r):x.a.out.text.length≤1048576∧x.a.inp.ready.length≤1048576∧x.b.out.text.length≤1048576∧x.b.inp.ready.length≤1048576∧x.wroteA.length≤1048576∧x.wroteB.length≤1048576∧x.readA.length≤1048576∧x.readB.length≤1048576:=by
 have k:=fc hm0 x.szL_nn (by rw [h];exact h0)
 exact⟨by have:=k (x.a.out.text.length:Int) (by simp [PiecesD.szL,KnownD.szL,EndD.szL,WorldD.szL,aR,aW,aJ,ax,bj,bD,aV]);omega,by have:=k (x.a.inp.ready.length:Int) (by simp [PiecesD.szL,KnownD.szL,EndD.szL,WorldD.szL,aR,aW,aJ,ax,bj,bD,aV]);omega,by have:=k (x.b.out.text.length:Int) (by simp [PiecesD.szL,KnownD.szL,EndD.szL,WorldD.szL,aR,aW,aJ,ax,bj,bD,aV]);omega,by have:=k (x.b.inp.ready.length:Int) (by simp [PiecesD.szL,KnownD.szL,EndD.szL,WorldD.szL,aR,aW,aJ,ax,bj,bD,aV]);omega,by have:=k (x.wroteA.length:Int) (by simp [PiecesD.szL,KnownD.szL,EndD.szL,WorldD.szL,aR,aW,aJ,ax,bj,bD,aV]);omega,by have:=k (x.wroteB.length:Int) (by simp [PiecesD.szL,KnownD.szL,EndD.szL,WorldD.szL,aR,aW,aJ,ax,bj,bD,aV]);omega,by have:=k (x.readA.length:Int) (by simp [PiecesD.szL,KnownD.szL,EndD.szL,WorldD.szL,aR,aW,aJ,ax,bj,bD,aV]);omega,by have:=k (x.readB.length:Int) (by simp [PiecesD.szL,KnownD.szL,EndD.szL,WorldD.szL,aR,aW,aJ,ax,bj,bD,aV]);omega⟩
theorem cN (x:WorldD) (hl0:x.a.own.length≤1048576) (hl1:x.a.far.length≤1048576) (hl2:x.a.subs.length≤1048576) (hl3:x.a.halfs.length≤1048576) (hl4:x.a.inp.list.length≤1048576) (hl5:x.a.done.length≤1048576) (hl6:x.a.over.length≤1048576) (hl7:x.b.own.length≤1048576) (hl8:x.b.far.length≤1048576) (hl9:x.b.subs.length≤1048576) (hl10:x.b.halfs.length≤1048576) (hl11:x.b.inp.list.length≤1048576) (hl12:x.b.done.length≤1048576) (hl13:x.b.over.length≤1048576) (hl14:x.bag.length≤1048576) (hl15:x.past.length≤1048576) (hl16:x.known.keys.length≤1048576) (hl17:x.known.tags.length≤1048576) (hl18:x.nums.length≤1048576) (hl19:x.answersA.length≤1048576) (hl20:x.answersB.length≤1048576):ae Tryz.prog 26 [.ag (x.cs 0)] x.hpL (.ag (x.cs 21)) (x.hpL++x.hp true):=by
 refine qE Tryz.func26 Tryz.ntmps26 Tryz.results26 fun E hE=>?_
 refine qK (qp x.a hl0 hl1 hl2 hl3 hl4 hl5 hl6) (qI 0 7) ?_
 refine qK (qp x.b hl7 hl8 hl9 hl10 hl11 hl12 hl13) (qI 7 7) ?_
 refine qK (kr x.bag hl14) (qI 14 1) ?_
 refine qK (kr x.past hl15) (qI 15 1) ?_
 refine qK (vp x.known hl16 hl17) (qI 16 2) ?_
 refine qK (fG x.nums hl18) (qI 18 1) ?_
 refine qK (fG x.answersA hl19) (qI 19 1) ?_
 refine qK (fG x.answersB hl20) (qI 20 1) ?_
 exact qF (qI 0 21++qI 24 21)
theorem h_ (x:WorldD) (hl0:x.a.own.length≤4611686018427387904) (hl1:x.a.far.length≤4611686018427387904) (hl2:x.a.subs.length≤4611686018427387904) (hl3:x.a.halfs.length≤4611686018427387904) (hl4:x.a.inp.list.length≤4611686018427387904) (hl5:x.a.done.length≤4611686018427387904) (hl6:x.a.over.length≤4611686018427387904) (hl7:x.b.own.length≤4611686018427387904) (hl8:x.b.far.length≤4611686018427387904) (hl9:x.b.subs.length≤4611686018427387904) (hl10:x.b.halfs.length≤4611686018427387904) (hl11:x.b.inp.list.length≤4611686018427387904) (hl12:x.b.done.length≤4611686018427387904) (hl13:x.b.over.length≤4611686018427387904) (hl14:x.bag.length≤4611686018427387904) (hl15:x.past.length≤4611686018427387904) (hl16:x.known.keys.length≤4611686018427387904) (hl17:x.known.tags.length≤4611686018427387904) (hl18:x.nums.length≤4611686018427387904) (hl19:x.answersA.length≤4611686018427387904) (hl20:x.answersB.length≤4611686018427387904):ae Tryz.prog 16 [.ag (x.cs 0),.ag (x.cs 21)] (x.hp false++x.hp false) (.sc (.bo true)) (x.hp false++x.hp false):=by
 refine qE Tryz.func16 Tryz.ntmps16 Tryz.results16 fun E hE=>?_
 refine qK (qq x.a hl0 hl1 hl2 hl3 hl4 hl5 hl6) (qI 0 7++qI 21 7) ?_
 refine qK (qq x.b hl7 hl8 hl9 hl10 hl11 hl12 hl13) (qI 7 7++qI 28 7) ?_
 refine qK (ks x.bag hl14) (qI 14 1++qI 35 1) ?_
 refine qK (ks x.past hl15) (qI 15 1++qI 36 1) ?_
 refine qK (vq x.known hl16 hl17) (qI 16 2++qI 37 2) ?_
 refine qK (fH x.nums hl18) (qI 18 1++qI 39 1) ?_
 refine qK (fH x.answersA hl19) (qI 19 1++qI 40 1) ?_
 refine qK (fH x.answersB hl20) (qI 20 1++qI 41 1) ?_
 exact qF (qI 0 42)
end
section
open Go.RowKit
def oJ (k:Int):List UInt8:=if k≤0 then [109,48] else 109::iP k.toNat []
theorem AU (n:Nat) (acc:List UInt8) (h:0 < n):iP n acc=if n / 10=0 then UInt8.ofNat (48+n % 10)::acc else iP (n / 10) (UInt8.ofNat (48+n % 10)::acc):=by
 rw [iP]
 by_cases h1:n < 10
 ·rw [dif_pos h1,if_pos (by omega),Nat.mod_eq_of_lt h1]
 rw [dif_neg h1,if_neg (by omega)]
theorem ec (k:Int) (hk:k≤4611686018427387904):ae Tryz.prog 41 [.sc (.int .i64 k)] [] (.sc (.st (oJ k))) []:=by
 refine qE Tryz.func41 Tryz.ntmps41 Tryz.results41 fun E hE=>?_
 refine qB (fun h1=>?_) fun h1=>?_
 ·refine qJ [] ?_
  rw [oJ,if_pos h1]
 have hm:oJ k=109::iP k.toNat []:=by rw [oJ,if_neg h1]
 obtain⟨n,rfl⟩:=Int.eq_ofNat_of_zero_le (show 0≤k by omega)
 rw [Int.toNat_natCast] at hm
 refine qX ?_
 refine an 0 hE (fun s (x:Nat×List UInt8)=>s.at (qU [4,14]) [(0,.sc (.int .i64 (x.1:Nat))),(3,.sc (.st x.2))] (s.hp)) (fun (x:Nat×List UInt8)=>x.1≤4611686018427387904∧x.2.length≤20∧(if x.1=0 then x.2 else iP x.1 x.2)=iP n []) (fun (x:Nat×List UInt8)=>x.1) (n,[]) [] (qC) (⟨by omega,by simp,by rw [if_neg (by omega)]⟩) (af (by rfl) (by rfl) ?_) fun x hx N hN=>?_
 ·exact qY
 obtain⟨m,acc⟩:=x
 obtain⟨hx1,hx3,hx4⟩:=hx
 dsimp only at hx1 hx3 hx4
 refine qR ?_
 refine qB (fun h2=>?_) fun h2=>?_
 ·have hb:m % 10 < 10:=Nat.mod_lt _ (by omega)
  have hlt:=Ew m acc
  rw [if_neg (by omega)] at hx4
  have hlen:=Ey (n:=(n:Int)) ⟨by omega,by omega⟩
  rw [Int.natAbs_natCast] at hlen
  rw [hx4] at hlt
  rw [AU m acc (by omega)] at hx4
  try simp (disch:=omega) only [go_sem,seval,nu]
  refine⟨by (try simp (disch:=omega) only [go_sem,List.length_set,seval,j8])<;>omega,hN _ (m / 10,UInt8.ofNat (48+m % 10)::acc) [] (by (try dsimp only);exact⟨by omega,by simp;omega,hx4⟩) (by (try dsimp only);omega) (af (by rfl) (by rfl) ?_)⟩
  refine qX ?_
  first|rfl|(congr 2;omega)|(congr 1;congr 1;omega)|(refine⟨?_,?_⟩<;>first|omega|(congr 2;omega)|(congr 1;congr 1;omega))
 have e:m=0:=by omega
 subst e
 rw [if_pos rfl] at hx4
 refine qJ [] ?_
 rw [hm,←hx4]
 try rfl
theorem ix {α:Type} {f:Int→α} {c k0:Int} {n:Nat}:fj f c k0 (n+1)=fj f c k0 n++[f (k0+c*n)]:=by
 simp [fj,List.range_succ]
theorem jC {α:Type} {f:Int→α} {c k0:Int} {n k:Nat} (h:k < (fj f c k0 n).length):(fj f c k0 n)[k]=f (k0+c*k):=by simp [fj]
theorem gq {α:Type} {l:List α} {k:Nat} (h:k < l.length) (v:α):(l.set k v).take (k+1)=l.take k++[v]:=by
 rw [List.take_succ_eq_append_getElem (by simpa using h),List.getElem_set_self,List.take_set_of_le (Nat.le_refl _)]
def iy (k:Int):Int:=k
theorem bN (l:List Int) (k0:Int) (hl:l.length≤16777216) (h0:0≤k0) (h1:k0≤1099511627776):ae Tryz.prog 20 [.sc (.sl 0 0 l.length),.sc (.int .i64 k0)] [some ⟨l.map aC,1,3,true,true⟩] (.sc (.int .i64 (k0+1*(l.length:Int)))) [some ⟨(fj iy 1 k0 l.length).map aC,1,3,true,true⟩]:=by
 refine qE Tryz.func20 Tryz.ntmps20 Tryz.results20 fun E hE=>?_
 refine an 1 hE (fun s (x:Nat×Int×List Int)=>s.at (qU [6,12]) [(5,.sc (.int .i64 (x.1:Nat))),(1,.sc (.int .i64 x.2.1))] ([some ⟨x.2.2.map aC,1,3,true,true⟩])) (fun (x:Nat×Int×List Int)=>x.1≤l.length∧x.2.2.length=l.length∧x.2.1=k0+1*(x.1:Int)∧x.2.2.take x.1=fj iy 1 k0 x.1) (fun (x:Nat×Int×List Int)=>l.length - x.1) (0,k0,l) (qI 0 1) (qC) (⟨Nat.zero_le _,rfl,by simp,rfl⟩) (af (by rfl) (by rfl) ?_) fun x hx N hN=>?_
 ·exact qY
 obtain⟨i,k,m⟩:=x
 obtain⟨hx1,hx2,hx3,hx4⟩:=hx
 dsimp only at hx1 hx2 hx3 hx4
 refine qR ?_
 refine qB (fun h=>?_) fun h=>?_
 ·have hi:i < m.length:=by omega
  try simp (disch:=omega) only [go_sem,seval,ao hi,dA hi]
  have ht:=gq hi (iy k)
  rw [hx4,hx3,←ix,←hx3] at ht
  refine⟨qC,hN _ (i+1,k+1,m.set i (iy k)) (qI 0 1) (by (try dsimp only);exact⟨by omega,by simp;omega,by omega,ht⟩) (by (try dsimp only);omega) (af (by rfl) (by rfl) ?_)⟩
  try simp (disch:=omega) only [go_sem,seval]
  try exact⟨by omega,bl rfl⟩
  try exact bl rfl
 have e:i=l.length:=by omega
 subst e
 rw [List.take_of_length_le (by omega)] at hx4
 subst hx4
 refine ah (qI 0 1) (qC) _ (by simp only [go_sem];rfl) (by rfl) (by rfl) ?_
 simp (disch:=omega) only [go_sem,seval]
 try exact hx3
 try exact⟨hx3,rfl⟩
theorem ed (k0:Int) (n:Nat) (hl:n≤16777216) (h0:0≤k0) (h1:k0≤1099511627776):ae Tryz.prog 22 [.sc (.sl 0 0 n),.sc (.int .i64 k0)] [some ⟨(fj iy 1 k0 n).map aC,1,3,false,true⟩] (.sc (.int .i64 (k0+1*(n:Int)))) [some ⟨(fj iy 1 k0 n).map aC,1,3,false,true⟩]:=by
 have hg:(fj iy 1 k0 n).length=n:=eK
 refine qE Tryz.func22 Tryz.ntmps22 Tryz.results22 fun E hE=>?_
 refine an 1 hE (fun s (x:Nat×Int)=>s.at (qU [4,1,6,14]) [(5,.sc (.int .i64 (x.1:Nat))),(1,.sc (.int .i64 x.2))] (s.hp)) (fun (x:Nat×Int)=>x.1≤n∧x.2=k0+1*(x.1:Int)) (fun (x:Nat×Int)=>n - x.1) (0,k0) (qI 0 1) (qC) (⟨Nat.zero_le _,by simp⟩) (af (by rfl) (by rfl) ?_) fun x hx N hN=>?_
 ·exact qY
 obtain⟨i,k⟩:=x
 obtain⟨hx1,hx3⟩:=hx
 dsimp only at hx1 hx3
 refine qR ?_
 refine qB (fun h=>?_) fun h=>?_
 ·have hi:i < (fj iy 1 k0 n).length:=by omega
  have he:=jC hi
  rw [←hx3] at he
  try simp (disch:=omega) only [go_sem,seval,ao hi,he,iy]
  refine⟨qC,hN _ (i+1,k+1) (qI 0 1) (by (try dsimp only);exact⟨by omega,by omega⟩) (by (try dsimp only);omega) (af (by rfl) (by rfl) ?_)⟩
  try simp (disch:=omega) only [go_sem,seval]
  try omega
 have e:i=n:=by omega
 subst e
 refine ah (qI 0 1) (qC) _ (by simp only [go_sem];rfl) (by rfl) (by rfl) ?_
 simp (disch:=omega) only [go_sem,seval]
 try exact hx3
theorem ku (l:List AddrD) (k0:Int) (hl:l.length≤16777216) (h0:0≤k0) (h1:k0≤1099511627776):ae Tryz.prog 95 [.sc (.sl 0 0 l.length),.sc (.int .i64 k0)] [some ⟨l.map AddrD.cs,4,88,true,true⟩] (.sc (.int .i64 (k0+4*(l.length:Int)))) [none]:=by
 refine qE Tryz.func95 Tryz.ntmps95 Tryz.results95 fun E hE=>?_
 refine an 1 hE (fun s (x:Nat×Int×List AddrD)=>s.at (qU [6,38]) [(5,.sc (.int .i64 (x.1:Nat))),(1,.sc (.int .i64 x.2.1))] ([some ⟨x.2.2.map AddrD.cs,4,88,true,true⟩])) (fun (x:Nat×Int×List AddrD)=>x.1≤l.length∧x.2.2.length=l.length∧x.2.1=k0+4*(x.1:Int)) (fun (x:Nat×Int×List AddrD)=>l.length - x.1) (0,k0,l) (qI 0 1) (qC) (⟨Nat.zero_le _,rfl,by simp⟩) (af (by rfl) (by rfl) ?_) fun x hx N hN=>?_
 ·exact qY
 obtain⟨i,k,m⟩:=x
 obtain⟨hx1,hx2,hx3⟩:=hx
 dsimp only at hx1 hx2 hx3
 refine qR ?_
 refine qB (fun h=>?_) fun h=>?_
 ·have hi:i < m.length:=by omega
  try simp (disch:=omega) only [go_sem,seval,ao hi,dA hi]
  refine⟨qC,hN _ (i+1,k+1+1+1+1,m.set i (⟨k,k+1,((k+1+1).tmod 3 == 0),((k+1+1+1).tmod 3 == 0)⟩:AddrD)) (qI 0 1) (by (try dsimp only);exact⟨by omega,by simp;omega,by omega⟩) (by (try dsimp only);omega) (af (by rfl) (by rfl) ?_)⟩
  try simp (disch:=omega) only [go_sem,seval]
  try exact⟨by omega,bl rfl⟩
  try exact bl rfl
 have e:i=l.length:=by omega
 subst e
 refine ah (qI 0 1) (qC) _ (by simp only [go_sem];rfl) (by rfl) (by rfl) ?_
 simp (disch:=omega) only [go_sem,seval]
 try exact hx3
theorem qr (l:List HalfD) (k0:Int) (hl:l.length≤16777216) (h0:0≤k0) (h1:k0≤1099511627776):ae Tryz.prog 97 [.sc (.sl 0 0 l.length),.sc (.int .i64 k0)] [some ⟨l.map HalfD.cs,8,213,true,true⟩] (.sc (.int .i64 (k0+8*(l.length:Int)))) [none]:=by
 refine qE Tryz.func97 Tryz.ntmps97 Tryz.results97 fun E hE=>?_
 refine an 1 hE (fun s (x:Nat×Int×List HalfD)=>s.at (qU [6,65]) [(5,.sc (.int .i64 (x.1:Nat))),(1,.sc (.int .i64 x.2.1))] ([some ⟨x.2.2.map HalfD.cs,8,213,true,true⟩])) (fun (x:Nat×Int×List HalfD)=>x.1≤l.length∧x.2.2.length=l.length∧x.2.1=k0+8*(x.1:Int)) (fun (x:Nat×Int×List HalfD)=>l.length - x.1) (0,k0,l) (qI 0 1) (qC) (⟨Nat.zero_le _,rfl,by simp⟩) (af (by rfl) (by rfl) ?_) fun x hx N hN=>?_
 ·exact qY
 obtain⟨i,k,m⟩:=x
 obtain⟨hx1,hx2,hx3⟩:=hx
 dsimp only at hx1 hx2 hx3
 refine qR ?_
 refine qB (fun h=>?_) fun h=>?_
 ·have hi:i < m.length:=by omega
  try simp (disch:=omega) only [go_sem,seval,ao hi,dA hi]
  refine⟨qC,hN _ (i+1,k+1+1+1+1+1+1+1+1,m.set i (⟨⟨k,k+1,k+1+1⟩,k+1+1+1,k+1+1+1+1,k+1+1+1+1+1,k+1+1+1+1+1+1,k+1+1+1+1+1+1+1⟩:HalfD)) (qI 0 1) (by (try dsimp only);exact⟨by omega,by simp;omega,by omega⟩) (by (try dsimp only);omega) (af (by rfl) (by rfl) ?_)⟩
  try simp (disch:=omega) only [go_sem,seval]
  try exact⟨by omega,bl rfl⟩
  try exact bl rfl
 have e:i=l.length:=by omega
 subst e
 refine ah (qI 0 1) (qC) _ (by simp only [go_sem];rfl) (by rfl) (by rfl) ?_
 simp (disch:=omega) only [go_sem,seval]
 try exact hx3
theorem sV (l:List TagD) (k0:Int) (hl:l.length≤16777216) (h0:0≤k0) (h1:k0≤1099511627776):ae Tryz.prog 99 [.sc (.sl 0 0 l.length),.sc (.int .i64 k0)] [some ⟨l.map TagD.cs,5,89,true,true⟩] (.sc (.int .i64 (k0+5*(l.length:Int)))) [none]:=by
 refine qE Tryz.func99 Tryz.ntmps99 Tryz.results99 fun E hE=>?_
 refine an 1 hE (fun s (x:Nat×Int×List TagD)=>s.at (qU [6,41]) [(5,.sc (.int .i64 (x.1:Nat))),(1,.sc (.int .i64 x.2.1))] ([some ⟨x.2.2.map TagD.cs,5,89,true,true⟩])) (fun (x:Nat×Int×List TagD)=>x.1≤l.length∧x.2.2.length=l.length∧x.2.1=k0+5*(x.1:Int)) (fun (x:Nat×Int×List TagD)=>l.length - x.1) (0,k0,l) (qI 0 1) (qC) (⟨Nat.zero_le _,rfl,by simp⟩) (af (by rfl) (by rfl) ?_) fun x hx N hN=>?_
 ·exact qY
 obtain⟨i,k,m⟩:=x
 obtain⟨hx1,hx2,hx3⟩:=hx
 dsimp only at hx1 hx2 hx3
 refine qR ?_
 refine qB (fun h=>?_) fun h=>?_
 ·have hi:i < m.length:=by omega
  try simp (disch:=omega) only [go_sem,seval,ao hi,dA hi]
  refine⟨qC,hN _ (i+1,k+1+1+1+1+1,m.set i (⟨k,k+1,k+1+1,k+1+1+1,k+1+1+1+1⟩:TagD)) (qI 0 1) (by (try dsimp only);exact⟨by omega,by simp;omega,by omega⟩) (by (try dsimp only);omega) (af (by rfl) (by rfl) ?_)⟩
  try simp (disch:=omega) only [go_sem,seval]
  try exact⟨by omega,bl rfl⟩
  try exact bl rfl
 have e:i=l.length:=by omega
 subst e
 refine ah (qI 0 1) (qC) _ (by simp only [go_sem];rfl) (by rfl) (by rfl) ?_
 simp (disch:=omega) only [go_sem,seval]
 try exact hx3
theorem jj (l:List LetterD) (k0:Int) (hl:l.length≤16777216) (h0:0≤k0) (h1:k0≤1099511627776):ae Tryz.prog 43 [.sc (.sl 0 0 l.length),.sc (.int .i64 k0)] [some ⟨l.map LetterD.cs,19,91,true,true⟩] (.sc (.int .i64 (k0+19*(l.length:Int)))) [none]:=by
 refine qE Tryz.func43 Tryz.ntmps43 Tryz.results43 fun E hE=>?_
 refine an 1 hE (fun s (x:Nat×Int×List LetterD)=>s.at (qU [6,147]) [(5,.sc (.int .i64 (x.1:Nat))),(1,.sc (.int .i64 x.2.1))] ([some ⟨x.2.2.map LetterD.cs,19,91,true,true⟩])) (fun (x:Nat×Int×List LetterD)=>x.1≤l.length∧x.2.2.length=l.length∧x.2.1=k0+19*(x.1:Int)) (fun (x:Nat×Int×List LetterD)=>l.length - x.1) (0,k0,l) (qI 0 1) (qC) (⟨Nat.zero_le _,rfl,by simp⟩) (af (by rfl) (by rfl) ?_) fun x hx N hN=>?_
 ·exact qY
 obtain⟨i,k,m⟩:=x
 obtain⟨hx1,hx2,hx3⟩:=hx
 dsimp only at hx1 hx2 hx3
 refine qR ?_
 refine qB (fun h=>?_) fun h=>?_
 ·have hi:i < m.length:=by omega
  try simp (disch:=omega) only [go_sem,seval,ao hi,dA hi]
  refine qK (ec (k+1+1+1+1+1+1+1+1+1+1+1+1+1+1+1+1+1+1) (by omega)) [] ?_
  refine⟨qC,hN _ (i+1,k+1+1+1+1+1+1+1+1+1+1+1+1+1+1+1+1+1+1+1,m.set i (⟨k,k+1,k+1+1,k+1+1+1,k+1+1+1+1,k+1+1+1+1+1,k+1+1+1+1+1+1,k+1+1+1+1+1+1+1,k+1+1+1+1+1+1+1+1,⟨k+1+1+1+1+1+1+1+1+1,k+1+1+1+1+1+1+1+1+1+1,k+1+1+1+1+1+1+1+1+1+1+1,k+1+1+1+1+1+1+1+1+1+1+1+1,k+1+1+1+1+1+1+1+1+1+1+1+1+1⟩,k+1+1+1+1+1+1+1+1+1+1+1+1+1+1,k+1+1+1+1+1+1+1+1+1+1+1+1+1+1+1,((k+1+1+1+1+1+1+1+1+1+1+1+1+1+1+1+1).tmod 3 == 0),k+1+1+1+1+1+1+1+1+1+1+1+1+1+1+1+1+1,oJ (k+1+1+1+1+1+1+1+1+1+1+1+1+1+1+1+1+1+1)⟩:LetterD)) (qI 0 1) (by (try dsimp only);exact⟨by omega,by simp;omega,by omega⟩) (by (try dsimp only);omega) (af (by rfl) (by rfl) ?_)⟩
  try simp (disch:=omega) only [go_sem,seval]
  try exact⟨by omega,bl rfl⟩
  try exact bl rfl
 have e:i=l.length:=by omega
 subst e
 refine ah (qI 0 1) (qC) _ (by simp only [go_sem];rfl) (by rfl) (by rfl) ?_
 simp (disch:=omega) only [go_sem,seval]
 try exact hx3
theorem sW (l:List SubD) (k0:Int) (hl:l.length≤16777216) (h0:0≤k0) (h1:k0≤1099511627776):ae Tryz.prog 96 [.sc (.sl 0 0 l.length),.sc (.int .i64 k0)] [some ⟨l.map SubD.cs,10,201,true,true⟩] (.sc (.int .i64 (k0+10*(l.length:Int)))) [none]:=by
 refine qE Tryz.func96 Tryz.ntmps96 Tryz.results96 fun E hE=>?_
 refine an 1 hE (fun s (x:Nat×Int×List SubD)=>s.at (qU [6,81]) [(5,.sc (.int .i64 (x.1:Nat))),(1,.sc (.int .i64 x.2.1))] ([some ⟨x.2.2.map SubD.cs,10,201,true,true⟩])) (fun (x:Nat×Int×List SubD)=>x.1≤l.length∧x.2.2.length=l.length∧x.2.1=k0+10*(x.1:Int)) (fun (x:Nat×Int×List SubD)=>l.length - x.1) (0,k0,l) (qI 0 1) (qC) (⟨Nat.zero_le _,rfl,by simp⟩) (af (by rfl) (by rfl) ?_) fun x hx N hN=>?_
 ·exact qY
 obtain⟨i,k,m⟩:=x
 obtain⟨hx1,hx2,hx3⟩:=hx
 dsimp only at hx1 hx2 hx3
 refine qR ?_
 refine qB (fun h=>?_) fun h=>?_
 ·have hi:i < m.length:=by omega
  try simp (disch:=omega) only [go_sem,seval,ao hi,dA hi]
  refine⟨qC,hN _ (i+1,k+1+1+1+1+1+1+1+1+1+1,m.set i (⟨⟨k,k+1,k+1+1⟩,k+1+1+1,((k+1+1+1+1).tmod 3 == 0),k+1+1+1+1+1,k+1+1+1+1+1+1,k+1+1+1+1+1+1+1,k+1+1+1+1+1+1+1+1,k+1+1+1+1+1+1+1+1+1⟩:SubD)) (qI 0 1) (by (try dsimp only);exact⟨by omega,by simp;omega,by omega⟩) (by (try dsimp only);omega) (af (by rfl) (by rfl) ?_)⟩
  try simp (disch:=omega) only [go_sem,seval]
  try exact⟨by omega,bl rfl⟩
  try exact bl rfl
 have e:i=l.length:=by omega
 subst e
 refine ah (qI 0 1) (qC) _ (by simp only [go_sem];rfl) (by rfl) (by rfl) ?_
 simp (disch:=omega) only [go_sem,seval]
 try exact hx3
theorem o5 (l:List PieceD) (k0:Int) (hl:l.length≤16777216) (h0:0≤k0) (h1:k0≤1099511627776):ae Tryz.prog 196 [.sc (.sl 0 0 l.length),.sc (.int .i64 k0)] [some ⟨l.map PieceD.cs,2,256,true,true⟩] (.sc (.int .i64 (k0+2*(l.length:Int)))) [none]:=by
 refine qE Tryz.func196 Tryz.ntmps196 Tryz.results196 fun E hE=>?_
 refine an 1 hE (fun s (x:Nat×Int×List PieceD)=>s.at (qU [6,21]) [(5,.sc (.int .i64 (x.1:Nat))),(1,.sc (.int .i64 x.2.1))] ([some ⟨x.2.2.map PieceD.cs,2,256,true,true⟩])) (fun (x:Nat×Int×List PieceD)=>x.1≤l.length∧x.2.2.length=l.length∧x.2.1=k0+2*(x.1:Int)) (fun (x:Nat×Int×List PieceD)=>l.length - x.1) (0,k0,l) (qI 0 1) (qC) (⟨Nat.zero_le _,rfl,by simp⟩) (af (by rfl) (by rfl) ?_) fun x hx N hN=>?_
 ·exact qY
 obtain⟨i,k,m⟩:=x
 obtain⟨hx1,hx2,hx3⟩:=hx
 dsimp only at hx1 hx2 hx3
 refine qR ?_
 refine qB (fun h=>?_) fun h=>?_
 ·have hi:i < m.length:=by omega
  try simp (disch:=omega) only [go_sem,seval,ao hi,dA hi]
  refine qK (ec (k+1) (by omega)) [] ?_
  refine⟨qC,hN _ (i+1,k+1+1,m.set i (⟨k,oJ (k+1)⟩:PieceD)) (qI 0 1) (by (try dsimp only);exact⟨by omega,by simp;omega,by omega⟩) (by (try dsimp only);omega) (af (by rfl) (by rfl) ?_)⟩
  try simp (disch:=omega) only [go_sem,seval]
  try exact⟨by omega,bl rfl⟩
  try exact bl rfl
 have e:i=l.length:=by omega
 subst e
 refine ah (qI 0 1) (qC) _ (by simp only [go_sem];rfl) (by rfl) (by rfl) ?_
 simp (disch:=omega) only [go_sem,seval]
 try exact hx3
theorem nN (x:PiecesD) (k0:Int) (l0:x.list.length≤1048576) (h0:0≤k0) (h1:k0≤549755813888):ae Tryz.prog 98 [.ag (x.cs 0),.sc (.int .i64 k0)] (x.hp true) (.sc (.int .i64 (k0+2*(x.list.length:Int)))) [none]:=by
 refine qE Tryz.func98 Tryz.ntmps98 Tryz.results98 fun E hE=>?_
 refine qK (o5 x.list (k0) (by omega) (by omega) (by omega)) (qI 0 1) ?_
 refine ah (qI 0 1) (qC) _ (by simp only [go_sem];rfl) (by rfl) (by rfl) ?_
 simp (disch:=omega) only [go_sem,seval]
 try omega
theorem o6 (x:KnownD) (k0:Int) (l0:x.keys.length≤1048576) (l1:x.tags.length≤1048576) (h0:0≤k0) (h1:k0≤549755813888):ae Tryz.prog 44 [.ag (x.cs 0),.sc (.int .i64 k0)] (x.hp true) (.sc (.int .i64 (k0+1*(x.keys.length:Int)+5*(x.tags.length:Int)))) [none,none]:=by
 refine qE Tryz.func44 Tryz.ntmps44 Tryz.results44 fun E hE=>?_
 refine qK (bN x.keys (k0) (by omega) (by omega) (by omega)) (qI 0 1) ?_
 refine qK (sV x.tags (k0+1*(x.keys.length:Int)) (by omega) (by omega) (by omega)) (qI 1 1) ?_
 refine ah (qI 0 2) (qC) _ (by simp only [go_sem];rfl) (by rfl) (by rfl) ?_
 simp (disch:=omega) only [go_sem,seval]
 try omega
theorem lB (x:EndD) (k0:Int) (l0:x.own.length≤1048576) (l1:x.far.length≤1048576) (l2:x.subs.length≤1048576) (l3:x.halfs.length≤1048576) (l4:x.inp.list.length≤1048576) (l5:x.done.length≤1048576) (l6:x.over.length≤1048576) (h0:0≤k0) (h1:k0≤274877906944):ae Tryz.prog 42 [.ag (x.cs 0),.sc (.int .i64 k0)] (x.hp true) (.sc (.int .i64 (k0+4*(x.own.length:Int)+4*(x.far.length:Int)+10*(x.subs.length:Int)+8*(x.halfs.length:Int)+2*(x.inp.list.length:Int)+1*(x.done.length:Int)+1*(x.over.length:Int)))) [none,none,none,none,none,none,none]:=by
 refine qE Tryz.func42 Tryz.ntmps42 Tryz.results42 fun E hE=>?_
 refine qK (ku x.own (k0) (by omega) (by omega) (by omega)) (qI 0 1) ?_
 refine qK (ku x.far (k0+4*(x.own.length:Int)) (by omega) (by omega) (by omega)) (qI 1 1) ?_
 refine qK (sW x.subs (k0+4*(x.own.length:Int)+4*(x.far.length:Int)) (by omega) (by omega) (by omega)) (qI 2 1) ?_
 refine qK (qr x.halfs (k0+4*(x.own.length:Int)+4*(x.far.length:Int)+10*(x.subs.length:Int)) (by omega) (by omega) (by omega)) (qI 3 1) ?_
 refine qK (nN x.inp (k0+4*(x.own.length:Int)+4*(x.far.length:Int)+10*(x.subs.length:Int)+8*(x.halfs.length:Int)) l4 (by omega) (by omega)) (qI 4 1) ?_
 refine qK (bN x.done (k0+4*(x.own.length:Int)+4*(x.far.length:Int)+10*(x.subs.length:Int)+8*(x.halfs.length:Int)+2*(x.inp.list.length:Int)) (by omega) (by omega) (by omega)) (qI 5 1) ?_
 refine qK (bN x.over (k0+4*(x.own.length:Int)+4*(x.far.length:Int)+10*(x.subs.length:Int)+8*(x.halfs.length:Int)+2*(x.inp.list.length:Int)+1*(x.done.length:Int)) (by omega) (by omega) (by omega)) (qI 6 1) ?_
 refine ah (qI 0 7) (qC) _ (by simp only [go_sem];rfl) (by rfl) (by rfl) ?_
 simp (disch:=omega) only [go_sem,seval]
 try omega
theorem o7 (x:WorldD) (k0:Int) (l0:x.a.own.length≤1048576) (l1:x.a.far.length≤1048576) (l2:x.a.subs.length≤1048576) (l3:x.a.halfs.length≤1048576) (l4:x.a.inp.list.length≤1048576) (l5:x.a.done.length≤1048576) (l6:x.a.over.length≤1048576) (l7:x.b.own.length≤1048576) (l8:x.b.far.length≤1048576) (l9:x.b.subs.length≤1048576) (l10:x.b.halfs.length≤1048576) (l11:x.b.inp.list.length≤1048576) (l12:x.b.done.length≤1048576) (l13:x.b.over.length≤1048576) (l14:x.bag.length≤1048576) (l15:x.past.length≤1048576) (l16:x.known.keys.length≤1048576) (l17:x.known.tags.length≤1048576) (l18:x.nums.length≤1048576) (l19:x.answersA.length≤1048576) (l20:x.answersB.length≤1048576) (h0:0≤k0) (h1:k0≤137438953472):ae Tryz.prog 19 [.ag (x.cs 0),.sc (.int .i64 k0)] (x.hp true) (.sc (.int .i64 (k0+4*(x.a.own.length:Int)+4*(x.a.far.length:Int)+10*(x.a.subs.length:Int)+8*(x.a.halfs.length:Int)+2*(x.a.inp.list.length:Int)+1*(x.a.done.length:Int)+1*(x.a.over.length:Int)+4*(x.b.own.length:Int)+4*(x.b.far.length:Int)+10*(x.b.subs.length:Int)+8*(x.b.halfs.length:Int)+2*(x.b.inp.list.length:Int)+1*(x.b.done.length:Int)+1*(x.b.over.length:Int)+19*(x.bag.length:Int)+19*(x.past.length:Int)+1*(x.known.keys.length:Int)+5*(x.known.tags.length:Int)+1*(x.nums.length:Int)+1*(x.answersA.length:Int)+1*(x.answersB.length:Int)))) [none,none,none,none,none,none,none,none,none,none,none,none,none,none,none,none,none,none,none,none,none]:=by
 refine qE Tryz.func19 Tryz.ntmps19 Tryz.results19 fun E hE=>?_
 refine qK (lB x.a (k0) l0 l1 l2 l3 l4 l5 l6 (by omega) (by omega)) (qI 0 7) ?_
 refine qK (lB x.b (k0+4*(x.a.own.length:Int)+4*(x.a.far.length:Int)+10*(x.a.subs.length:Int)+8*(x.a.halfs.length:Int)+2*(x.a.inp.list.length:Int)+1*(x.a.done.length:Int)+1*(x.a.over.length:Int)) l7 l8 l9 l10 l11 l12 l13 (by omega) (by omega)) (qI 7 7) ?_
 refine qK (jj x.bag (k0+4*(x.a.own.length:Int)+4*(x.a.far.length:Int)+10*(x.a.subs.length:Int)+8*(x.a.halfs.length:Int)+2*(x.a.inp.list.length:Int)+1*(x.a.done.length:Int)+1*(x.a.over.length:Int)+4*(x.b.own.length:Int)+4*(x.b.far.length:Int)+10*(x.b.subs.length:Int)+8*(x.b.halfs.length:Int)+2*(x.b.inp.list.length:Int)+1*(x.b.done.length:Int)+1*(x.b.over.length:Int)) (by omega) (by omega) (by omega)) (qI 14 1) ?_
 refine qK (jj x.past (k0+4*(x.a.own.length:Int)+4*(x.a.far.length:Int)+10*(x.a.subs.length:Int)+8*(x.a.halfs.length:Int)+2*(x.a.inp.list.length:Int)+1*(x.a.done.length:Int)+1*(x.a.over.length:Int)+4*(x.b.own.length:Int)+4*(x.b.far.length:Int)+10*(x.b.subs.length:Int)+8*(x.b.halfs.length:Int)+2*(x.b.inp.list.length:Int)+1*(x.b.done.length:Int)+1*(x.b.over.length:Int)+19*(x.bag.length:Int)) (by omega) (by omega) (by omega)) (qI 15 1) ?_
 refine qK (o6 x.known (k0+4*(x.a.own.length:Int)+4*(x.a.far.length:Int)+10*(x.a.subs.length:Int)+8*(x.a.halfs.length:Int)+2*(x.a.inp.list.length:Int)+1*(x.a.done.length:Int)+1*(x.a.over.length:Int)+4*(x.b.own.length:Int)+4*(x.b.far.length:Int)+10*(x.b.subs.length:Int)+8*(x.b.halfs.length:Int)+2*(x.b.inp.list.length:Int)+1*(x.b.done.length:Int)+1*(x.b.over.length:Int)+19*(x.bag.length:Int)+19*(x.past.length:Int)) l16 l17 (by omega) (by omega)) (qI 16 2) ?_
 refine qK (bN x.nums (k0+4*(x.a.own.length:Int)+4*(x.a.far.length:Int)+10*(x.a.subs.length:Int)+8*(x.a.halfs.length:Int)+2*(x.a.inp.list.length:Int)+1*(x.a.done.length:Int)+1*(x.a.over.length:Int)+4*(x.b.own.length:Int)+4*(x.b.far.length:Int)+10*(x.b.subs.length:Int)+8*(x.b.halfs.length:Int)+2*(x.b.inp.list.length:Int)+1*(x.b.done.length:Int)+1*(x.b.over.length:Int)+19*(x.bag.length:Int)+19*(x.past.length:Int)+1*(x.known.keys.length:Int)+5*(x.known.tags.length:Int)) (by omega) (by omega) (by omega)) (qI 18 1) ?_
 refine qK (bN x.answersA (k0+4*(x.a.own.length:Int)+4*(x.a.far.length:Int)+10*(x.a.subs.length:Int)+8*(x.a.halfs.length:Int)+2*(x.a.inp.list.length:Int)+1*(x.a.done.length:Int)+1*(x.a.over.length:Int)+4*(x.b.own.length:Int)+4*(x.b.far.length:Int)+10*(x.b.subs.length:Int)+8*(x.b.halfs.length:Int)+2*(x.b.inp.list.length:Int)+1*(x.b.done.length:Int)+1*(x.b.over.length:Int)+19*(x.bag.length:Int)+19*(x.past.length:Int)+1*(x.known.keys.length:Int)+5*(x.known.tags.length:Int)+1*(x.nums.length:Int)) (by omega) (by omega) (by omega)) (qI 19 1) ?_
 refine qK (bN x.answersB (k0+4*(x.a.own.length:Int)+4*(x.a.far.length:Int)+10*(x.a.subs.length:Int)+8*(x.a.halfs.length:Int)+2*(x.a.inp.list.length:Int)+1*(x.a.done.length:Int)+1*(x.a.over.length:Int)+4*(x.b.own.length:Int)+4*(x.b.far.length:Int)+10*(x.b.subs.length:Int)+8*(x.b.halfs.length:Int)+2*(x.b.inp.list.length:Int)+1*(x.b.done.length:Int)+1*(x.b.over.length:Int)+19*(x.bag.length:Int)+19*(x.past.length:Int)+1*(x.known.keys.length:Int)+5*(x.known.tags.length:Int)+1*(x.nums.length:Int)+1*(x.answersA.length:Int)) (by omega) (by omega) (by omega)) (qI 20 1) ?_
 refine ah (qI 0 21) (qC) _ (by simp only [go_sem];rfl) (by rfl) (by rfl) ?_
 simp (disch:=omega) only [go_sem,seval]
 try omega
end
section
open Go.RowKit
end
section
open Go.RowKit
section
variable {P:Program} {β:Be}
end
end
section
open Go.RowKit
end
section
open Go.RowKit
end
section
open Go.RowKit
end
section
open Go.RowKit
end
section
open Go.RowKit
end
section
open Go.RowKit
end
section
open Go.RowKit
end
section
open Go.RowKit
end
section
open Go.RowKit
end
section
open Go.RowKit
end
section
open Go.RowKit
end
section
open Go.RowKit
end
section
open Go.RowKit
end
section
open Go.RowKit
end
section
open Go.RowKit
end
section
open Go.RowKit
end
section
open Go.RowKit
end
section
open Go.RowKit
end
section
open Go.RowKit
end
section
open Go.RowKit
end
section
open Go.RowKit
end
section
open Go.RowKit
end
section
open Go.RowKit
end
section
open Go.RowKit
end
section
open Go.RowKit
end
section
open Go.RowKit
end
section
open Go.RowKit
end
section
open Go.RowKit
end
section
end
section
open Go.RowKit
end
section
open Go.RowKit
end
section
open Go.RowKit
end
section
open Go.RowKit
end
section
open Go.RowKit
end
section
open Go.RowKit
end
section
open Go.RowKit
end
section
open Go.RowKit
end
section
open Go.RowKit
end
section
open Go.RowKit
end
section
open Go.RowKit
end
section
open Go.RowKit
end
section
open Go.RowKit
end
section
open Go.RowKit
end
section
open Go.RowKit
end
section
open Go.RowKit
end
section
open Go.RowKit
end
section
open Go.RowKit
end
section
open Go.RowKit
end
section
open Go.RowKit
end
section
open Go.RowKit
end
section
open Go.RowKit
end
section
open Go.RowKit
end
section
open Go.RowKit
end
section
open Go.RowKit
end
section
open Go.RowKit
end
section
open Go.RowKit
end
section
open Go.RowKit
end
section
open Go.RowKit
end
section
open Go.RowKit
end
section
open Go.RowKit
end
section
open Go.RowKit
end
section
open Go.RowKit
end
section
open Go.RowKit
end
section
open Go.RowKit
def a1 (k s m:Int):ActD:=⟨k,s,0,m,[],⟨0,0,false,false⟩,aw⟩
attribute [go_sem] a1 aw
def a5:Nat→WorldD→WorldD
 |0,w=>w
 |n+1,w=>if w.bag.length=0 then w else a5 n (ff w (a1 8 1 0)).1
def kk (w:WorldD):WorldD:=(ff (ff (ff w (a1 4 1 0)).1 (a1 3 1 0)).1 (a1 3 2 0)).1
def d1 (w:WorldD):WorldD:=(ff (ff w (a1 2 1 200)).1 (a1 2 2 200)).1
def a3 (w:WorldD):WorldD:=d1 (a5 400 (kk w))
def p2:Nat→WorldD→WorldD
 |0,w=>w
 |n+1,w=>p2 n (a3 w)
def ps (w:WorldD) (n:Int):WorldD:=p2 (min n 60).toNat w
theorem hY {w:WorldD} {a:ActD} {k:Nat} (h:GoodW w k) (h1:¬ a.kind=1) (h2:¬ a.kind=2):GoodW (kE w a) k:=by
 rw [kE,if_neg h1,if_neg h2];exact h
theorem a2 {w:WorldD} {a:ActD} {k:Nat} (h:GoodW w k) (h1:¬ a.kind=1) (h2:¬ a.kind=2):GoodW (ff w a).1 k:=by
 have hb:=aaE w.bag a.pos h.r.bag
 have hl:=h.r.bag
 unfold ff;split
 ·split
  ·unfold db;split
   ·exact h
   exact Z5 (ZT (hY h h1 h2) (aaO (w6 h)))
  unfold a_;repeat' split
  all_goals first
   |exact h
   |exact aaD (Z6 h hb)
   |exact Z6 h hb
   |exact Z6 h (by simp only [List.length_append,List.length_singleton];omega)
 exact h
theorem hd:∀ {n:Nat} {w:WorldD} {k:Nat},GoodW w k→GoodW (a5 n w) k
 |0,w,k,h=>h
 |n+1,w,k,h=>by
  rw [a5];split
  ·exact h
  exact hd (a2 h (by simp [a1]) (by simp [a1]))
theorem i0 {w:WorldD} {k:Nat} (h:GoodW w k):GoodW (kk w) k:=
 a2 (a2 (a2 h (by simp [a1]) (by simp [a1])) (by simp [a1]) (by simp [a1])) (by simp [a1]) (by simp [a1])
theorem hM {w:WorldD} {k:Nat} (h:GoodW w k):GoodW (d1 w) (k+2):=w7 (w7 h (by simp [a1])) (by simp [a1])
theorem hz {w:WorldD} {k:Nat} (h:GoodW w k):GoodW (a3 w) (k+2):=hM (hd (i0 h))
theorem p5:∀ {n:Nat} {w:WorldD} {k:Nat},GoodW w k→GoodW (p2 n w) (k+2*n)
 |0,w,k,h=>h
 |n+1,w,k,h=>by
  have:=p5 (n:=n) (hz h)
  rw [show k+2*(n+1)=k+2+2*n by omega];exact this
theorem ho {n k:Nat} {w:WorldD} (hk:k < n) (hb:¬ w.bag.length=0):a5 (n - k) w=a5 (n - (k+1)) (ff w (a1 8 1 0)).1:=by
 rw [show n - k=(n - (k+1))+1 by omega,a5,if_neg hb]
theorem hB {n k:Nat} {w:WorldD} (h:n≤k∨w.bag.length=0):a5 (n - k) w=w:=by
 rcases Nat.eq_zero_or_pos (n - k) with h0|h0
 ·rw [h0];rfl
 rw [show n - k=(n - k - 1)+1 by omega,a5,if_pos (by omega)]
theorem a4 (w:WorldD) (a:ActD) (hw:SmallD w):ae Tryz.prog 70 [.ag a.cs,.sc (.pt 21 0 0)] (w.hp true++[some ⟨[WorldD.cs w 0],61,51,true,false⟩]) (.sc (.int .i64 (ff w a).2)) ([none,none,none,none,none,none,none,none,none,none,none,none,none,none,none,none,none,none,none,none,none,some ⟨[WorldD.cs (ff w a).1 22],61,51,true,false⟩]++(ff w a).1.hp true):=by
 have hD:=Bi w a hw
 obtain⟨Q,hQ⟩:∃ Q,Q=ff w a:=⟨_,rfl⟩
 rw [←hQ] at hD⊢
 clear hQ
 obtain⟨W,C⟩:=Q
 dsimp only at hD⊢
 refine ga Tryz.func70 Tryz.ntmps70 Tryz.results70 fun E hE=>?_
 refine qK (hD) (qI 0 21) ?_
 exact cc (qI 0 22++qI 23 21)
theorem hC (w:WorldD) (k0:Nat) (hg:GoodW w k0) (hk0:k0≤900):ae Tryz.prog 30 [.ag (w.cs 0)] (w.hp false) (.ag ((a3 w).cs 21)) (w.hp false++(a3 w).hp true):=by
 obtain⟨R,hR⟩:∃ R,R=a3 w:=⟨_,rfl⟩
 rw [←hR]
 have g1:=a2 (a:=a1 4 1 0) hg (by simp [a1]) (by simp [a1])
 have g2:=a2 (a:=a1 3 1 0) g1 (by simp [a1]) (by simp [a1])
 have g3:=a2 (a:=a1 3 2 0) g2 (by simp [a1]) (by simp [a1])
 have c1:=a4 w (a1 4 1 0) (hg.d (by omega))
 have c2:=a4 _ (a1 3 1 0) (g1.d (by omega))
 have c3:=a4 _ (a1 3 2 0) (g2.d (by omega))
 rw [a3,kk] at hR
 obtain⟨w1,h1⟩:∃ w1,w1=ff w (a1 4 1 0):=⟨_,rfl⟩
 rw [←h1] at hR g1 g2 g3 c1 c2 c3
 obtain⟨w2,h2⟩:∃ w2,w2=ff w1.1 (a1 3 1 0):=⟨_,rfl⟩
 rw [←h2] at hR g2 g3 c2 c3
 obtain⟨w3,h3⟩:∃ w3,w3=ff w2.1 (a1 3 2 0):=⟨_,rfl⟩
 rw [←h3] at hR g3 c3
 clear h1 h2 h3
 obtain⟨w1,n1⟩:=w1
 obtain⟨w2,n2⟩:=w2
 obtain⟨w3,n3⟩:=w3
 dsimp only at hR g1 g2 g3 c1 c2 c3
 refine ga Tryz.func30 Tryz.ntmps30 Tryz.results30 fun E hE=>?_
 refine qK (kB w hg.s) (qI 0 21) ?_
 refine qK (c1) (qI 23 22) ?_
 refine qK (c2) (qI 45 21++qI 44 1) ?_
 refine qK (c3) (qI 66 21++qI 44 1) ?_
 refine cE 21 hE (fun s (y:Nat×WorldD)=>s.at (qU [0,2,6,25]) [(5,.sc (.int .i64 (y.1:Nat))),(3,.sc (.pt 23 0 0)),(4,.cl 70 [.pt 23 0 0])] ((s.hp.take 23)++([some ⟨[WorldD.cs y.2 24],61,51,true,false⟩]++y.2.hp true))) (fun (y:Nat×WorldD)=>y.1≤400∧GoodW y.2 k0∧d1 (a5 (400 - y.1) y.2)=R) (fun (y:Nat×WorldD)=>400 - y.1) (0,w3) (qI 0 23++qI 44 1++qI 87 21) (qC) (⟨Nat.zero_le _,g3,hR.symm⟩) (ab (by rfl) (by rfl) ?_) fun y hy N hN=>?_
 ·exact qY
 obtain⟨k,u⟩:=y
 obtain⟨f1,f2,f3⟩:=hy
 dsimp only at f1 f2 f3
 have hbl:=f2.r.bag
 by_cases hgo:k < 400∧¬ u.bag.length=0
 ·obtain⟨hk,hb⟩:=hgo
  rw [ho hk hb] at f3
  have c4:=a4 u (a1 8 1 0) (f2.d (by omega))
  have g4:=a2 (a:=a1 8 1 0) f2 (by simp [a1]) (by simp [a1])
  obtain⟨Q,hQ⟩:∃ Q,Q=ff u (a1 8 1 0):=⟨_,rfl⟩
  rw [←hQ] at c4 g4 f3
  clear hQ
  obtain⟨u2,n⟩:=Q
  dsimp only at c4 g4 f3
  refine qR ?_
  refine qK (c4) (qI 24 21++qI 23 1) ?_
  exact UH hN (k+1,u2) (qI 0 24++qI 45 21) (by (try dsimp only);exact⟨by omega,g4,f3⟩)
 rw [hB (by omega)] at f3
 have c4:=a4 u (a1 2 1 200) (f2.d (by omega))
 have g4:=w7 (a:=a1 2 1 200) f2 (by simp [a1])
 have c5:=a4 _ (a1 2 2 200) (g4.d (by omega))
 rw [d1] at f3
 obtain⟨Q,hQ⟩:∃ Q,Q=ff u (a1 2 1 200):=⟨_,rfl⟩
 rw [←hQ] at c4 c5 g4 f3
 clear hQ
 obtain⟨u2,n⟩:=Q
 dsimp only at c4 c5 g4 f3
 obtain⟨Q,hQ⟩:∃ Q,Q=ff u2 (a1 2 2 200):=⟨_,rfl⟩
 rw [←hQ] at c5 f3
 clear hQ
 obtain⟨u3,m⟩:=Q
 dsimp only at c5 f3
 subst f3
 by_cases hk:k < 400
 ·have hb:u.bag.length=0:=by omega
  refine qR ?_
  refine qK (c4) (qI 24 21++qI 23 1) ?_
  refine qK (c5) (qI 45 21++qI 23 1) ?_
  exact cc (qI 0 21++qI 66 21)
 refine qR ?_
 refine qK (c4) (qI 24 21++qI 23 1) ?_
 refine qK (c5) (qI 45 21++qI 23 1) ?_
 exact cc (qI 0 21++qI 66 21)
theorem hG (w:WorldD) (k0:Nat) (hg:GoodW w k0) (hk0:k0≤900):ae Tryz.prog 29 [.ag (w.cs 0)] (w.hp false) (.ag ((a3 w).cs 21)) (w.hp false++(a3 w).hp true):=by
 obtain⟨R,hR⟩:∃ R,R=a3 w:=⟨_,rfl⟩
 rw [←hR]
 have g1:=a2 (a:=a1 4 1 0) hg (by simp [a1]) (by simp [a1])
 have g2:=a2 (a:=a1 3 1 0) g1 (by simp [a1]) (by simp [a1])
 have g3:=a2 (a:=a1 3 2 0) g2 (by simp [a1]) (by simp [a1])
 have c1:=Bj w (a1 4 1 0) (hg.d (by omega))
 have c2:=Bj _ (a1 3 1 0) (g1.d (by omega))
 have c3:=Bj _ (a1 3 2 0) (g2.d (by omega))
 rw [a3,kk] at hR
 obtain⟨w1,h1⟩:∃ w1,w1=ff w (a1 4 1 0):=⟨_,rfl⟩
 rw [←h1] at hR g1 g2 g3 c1 c2 c3
 obtain⟨w2,h2⟩:∃ w2,w2=ff w1.1 (a1 3 1 0):=⟨_,rfl⟩
 rw [←h2] at hR g2 g3 c2 c3
 obtain⟨w3,h3⟩:∃ w3,w3=ff w2.1 (a1 3 2 0):=⟨_,rfl⟩
 rw [←h3] at hR g3 c3
 clear h1 h2 h3
 obtain⟨w1,n1⟩:=w1
 obtain⟨w2,n2⟩:=w2
 obtain⟨w3,n3⟩:=w3
 dsimp only at hR g1 g2 g3 c1 c2 c3
 refine ga Tryz.func29 Tryz.ntmps29 Tryz.results29 fun E hE=>?_
 refine qK (c1) (qI 0 21) ?_
 refine qK (c2) (qI 23 21) ?_
 refine qK (c3) (qI 44 21) ?_
 refine cE 21 hE (fun s (y:Nat×WorldD)=>s.at (qU [0,1,4,34]) [(3,.sc (.int .i64 (y.1:Nat)))] (((s.hp.take 23).set 21 (some ⟨[WorldD.cs y.2 23],61,51,true,false⟩))++y.2.hp true)) (fun (y:Nat×WorldD)=>y.1≤400∧GoodW y.2 k0∧d1 (a5 (400 - y.1) y.2)=R) (fun (y:Nat×WorldD)=>400 - y.1) (0,w3) (qI 0 23++qI 65 21) (qC) (⟨Nat.zero_le _,g3,hR.symm⟩) (ab (by rfl) (by rfl) ?_) fun y hy N hN=>?_
 ·exact qY
 obtain⟨k,u⟩:=y
 obtain⟨f1,f2,f3⟩:=hy
 dsimp only at f1 f2 f3
 have hbl:=f2.r.bag
 by_cases hgo:k < 400∧¬ u.bag.length=0
 ·obtain⟨hk,hb⟩:=hgo
  rw [ho hk hb] at f3
  have c4:=Bj u (a1 8 1 0) (f2.d (by omega))
  have g4:=a2 (a:=a1 8 1 0) f2 (by simp [a1]) (by simp [a1])
  obtain⟨Q,hQ⟩:∃ Q,Q=ff u (a1 8 1 0):=⟨_,rfl⟩
  rw [←hQ] at c4 g4 f3
  clear hQ
  obtain⟨u2,n⟩:=Q
  dsimp only at c4 g4 f3
  refine qR ?_
  refine qK (c4) (qI 23 21) ?_
  exact UH hN (k+1,u2) (qI 0 23++qI 44 21) (by (try dsimp only);exact⟨by omega,g4,f3⟩)
 rw [hB (by omega)] at f3
 have c4:=Bj u (a1 2 1 200) (f2.d (by omega))
 have g4:=w7 (a:=a1 2 1 200) f2 (by simp [a1])
 have c5:=Bj _ (a1 2 2 200) (g4.d (by omega))
 rw [d1] at f3
 obtain⟨Q,hQ⟩:∃ Q,Q=ff u (a1 2 1 200):=⟨_,rfl⟩
 rw [←hQ] at c4 c5 g4 f3
 clear hQ
 obtain⟨u2,n⟩:=Q
 dsimp only at c4 c5 g4 f3
 obtain⟨Q,hQ⟩:∃ Q,Q=ff u2 (a1 2 2 200):=⟨_,rfl⟩
 rw [←hQ] at c5 f3
 clear hQ
 obtain⟨u3,m⟩:=Q
 dsimp only at c5 f3
 subst f3
 by_cases hk:k < 400
 ·have hb:u.bag.length=0:=by omega
  refine qR ?_
  refine qK (c4) (qI 23 21) ?_
  refine qK (c5) (qI 44 21) ?_
  exact cc (qI 0 21++qI 65 21)
 refine qR ?_
 refine qK (c4) (qI 23 21) ?_
 refine qK (c5) (qI 44 21) ?_
 exact cc (qI 0 21++qI 65 21)
theorem p3 (w:WorldD) (n:Int) (k0:Nat) (hg:GoodW w k0) (hk0:k0≤700):ae Tryz.prog 32 [.ag (w.cs 0),.sc (.int .i64 n)] (w.hp false) (.ag ((ps w n).cs 21)) (w.hp false++(ps w n).hp true):=by
 obtain⟨R,hR⟩:∃ R,R=ps w n:=⟨_,rfl⟩
 rw [←hR]
 rw [ps] at hR
 obtain⟨M,hM⟩:∃ M,M=(min n 60).toNat:=⟨_,rfl⟩
 rw [←hM] at hR
 refine ga Tryz.func32 Tryz.ntmps32 Tryz.results32 fun E hE=>?_
 refine qK (kB w hg.s) (qI 0 21) ?_
 refine cE 21 hE (fun s (y:Nat×WorldD)=>s.at (qU [0,1,2,1,7,10]) [(6,.sc (.int .i64 (y.1:Nat)))] ((s.hp.take 23)++(y.2.hp true++[some ⟨[WorldD.cs y.2 23],61,51,true,false⟩]))) (fun (y:Nat×WorldD)=>y.1≤M∧GoodW y.2 (k0+2*y.1)∧p2 (M - y.1) y.2=R) (fun (y:Nat×WorldD)=>M - y.1) (0,w) (qI 0 45) (qC) (⟨Nat.zero_le _,hg,hR.symm⟩) (ab (by rfl) (by rfl) ?_) fun y hy N hN=>?_
 ·exact qY
 obtain⟨k,u⟩:=y
 obtain⟨f1,f2,f3⟩:=hy
 dsimp only at f1 f2 f3
 by_cases hk:k < M
 ·have hn:(k:Int) < n:=by omega
  have h60:k < 60:=by omega
  have hmn:(k:Int) < min n 60:=by omega
  rw [show M - k=(M - (k+1))+1 by omega,p2] at f3
  have c:=hC u _ f2 (by omega)
  have g:=hz f2
  obtain⟨Q,hQ⟩:∃ Q,Q=a3 u:=⟨_,rfl⟩
  rw [←hQ] at c g f3
  clear hQ
  refine qR ?_
  refine qK (c) (qI 23 21) ?_
  exact UH hN (k+1,Q) (qI 0 23++qI 45 21++qI 44 1) (by (try dsimp only);exact⟨by omega,by rw [show k0+2*(k+1)=k0+2*k+2 by omega];exact g,f3⟩)
 have hmn:¬ (k:Int) < min n 60:=by omega
 rw [show M - k=0 by omega,p2] at f3
 subst f3
 by_cases hn:(k:Int) < n
 ·have h60:¬ k < 60:=by omega
  refine qR ?_
  exact cc (qI 0 21++qI 23 21)
 refine qR ?_
 exact cc (qI 0 21++qI 23 21)
theorem p4 (w:WorldD) (n:Int) (k0:Nat) (hg:GoodW w k0) (hk0:k0≤700):ae Tryz.prog 31 [.ag (w.cs 0),.sc (.int .i64 n)] (w.hp false) (.ag ((ps w n).cs 21)) (w.hp false++(ps w n).hp true):=by
 obtain⟨R,hR⟩:∃ R,R=ps w n:=⟨_,rfl⟩
 rw [←hR]
 rw [ps] at hR
 obtain⟨M,hM⟩:∃ M,M=(min n 60).toNat:=⟨_,rfl⟩
 rw [←hM] at hR
 refine ga Tryz.func31 Tryz.ntmps31 Tryz.results31 fun E hE=>?_
 refine qK (ib w hg.s) (qI 0 21) ?_
 refine cE 21 hE (fun s (y:Nat×WorldD)=>s.at (qU [0,1,6,13]) [(5,.sc (.int .i64 (y.1:Nat)))] (((s.hp.take 23).set 21 (some ⟨[WorldD.cs y.2 23],61,51,true,false⟩))++y.2.hp true)) (fun (y:Nat×WorldD)=>y.1≤M∧GoodW y.2 (k0+2*y.1)∧p2 (M - y.1) y.2=R) (fun (y:Nat×WorldD)=>M - y.1) (0,w) (qI 0 44) (qC) (⟨Nat.zero_le _,hg,hR.symm⟩) (ab (by rfl) (by rfl) ?_) fun y hy N hN=>?_
 ·exact qY
 obtain⟨k,u⟩:=y
 obtain⟨f1,f2,f3⟩:=hy
 dsimp only at f1 f2 f3
 by_cases hk:k < M
 ·have hn:(k:Int) < n:=by omega
  have h60:k < 60:=by omega
  have hmn:(k:Int) < min n 60:=by omega
  rw [show M - k=(M - (k+1))+1 by omega,p2] at f3
  have c:=hG u _ f2 (by omega)
  have g:=hz f2
  obtain⟨Q,hQ⟩:∃ Q,Q=a3 u:=⟨_,rfl⟩
  rw [←hQ] at c g f3
  clear hQ
  refine qR ?_
  refine qK (c) (qI 23 21) ?_
  exact UH hN (k+1,Q) (qI 0 23++qI 44 21) (by (try dsimp only);exact⟨by omega,by rw [show k0+2*(k+1)=k0+2*k+2 by omega];exact g,f3⟩)
 have hmn:¬ (k:Int) < min n 60:=by omega
 rw [show M - k=0 by omega,p2] at f3
 subst f3
 by_cases hn:(k:Int) < n
 ·have h60:¬ k < 60:=by omega
  refine qR ?_
  exact cc (qI 0 21++qI 23 21)
 refine qR ?_
 exact cc (qI 0 21++qI 23 21)
end
section
open Go.RowKit
attribute [go_sem] eK
def iC (k:Int):AddrD:=⟨k,k+1,((k+1+1).tmod 3 == 0),((k+1+1+1).tmod 3 == 0)⟩
theorem j1 (l:List AddrD) (k0:Int) (hl:l.length≤16777216) (h0:0≤k0) (h1:k0≤1099511627776):ae Tryz.prog 95 [.sc (.sl 0 0 l.length),.sc (.int .i64 k0)] [some ⟨l.map AddrD.cs,4,88,true,true⟩] (.sc (.int .i64 (k0+4*(l.length:Int)))) [some ⟨(fj iC 4 k0 l.length).map AddrD.cs,4,88,true,true⟩]:=by
 refine qE Tryz.func95 Tryz.ntmps95 Tryz.results95 fun E hE=>?_
 refine an 1 hE (fun s (x:Nat×Int×List AddrD)=>s.at (qU [6,38]) [(5,.sc (.int .i64 (x.1:Nat))),(1,.sc (.int .i64 x.2.1))] ([some ⟨x.2.2.map AddrD.cs,4,88,true,true⟩])) (fun (x:Nat×Int×List AddrD)=>x.1≤l.length∧x.2.2.length=l.length∧x.2.1=k0+4*(x.1:Int)∧x.2.2.take x.1=fj iC 4 k0 x.1) (fun (x:Nat×Int×List AddrD)=>l.length - x.1) (0,k0,l) (qI 0 1) (qC) (⟨Nat.zero_le _,rfl,by simp,rfl⟩) (af (by rfl) (by rfl) ?_) fun x hx N hN=>?_
 ·exact qY
 obtain⟨i,k,m⟩:=x
 obtain⟨hx1,hx2,hx3,hx4⟩:=hx
 dsimp only at hx1 hx2 hx3 hx4
 refine qR ?_
 refine qB (fun h=>?_) fun h=>?_
 ·have hi:i < m.length:=by omega
  try simp (disch:=omega) only [go_sem,seval,ao hi,dA hi]
  have ht:=gq hi (iC k)
  rw [hx4,hx3,←ix,←hx3] at ht
  refine⟨qC,hN _ (i+1,k+1+1+1+1,m.set i (iC k)) (qI 0 1) (by (try dsimp only);exact⟨by omega,by simp;omega,by omega,ht⟩) (by (try dsimp only);omega) (af (by rfl) (by rfl) ?_)⟩
  try simp (disch:=omega) only [go_sem,seval]
  try exact⟨by omega,bl rfl⟩
  try exact bl rfl
 have e:i=l.length:=by omega
 subst e
 rw [List.take_of_length_le (by omega)] at hx4
 subst hx4
 refine ah (qI 0 1) (qC) _ (by simp only [go_sem];rfl) (by rfl) (by rfl) ?_
 simp (disch:=omega) only [go_sem,seval]
 try exact hx3
 try exact⟨hx3,rfl⟩
theorem j2 (k0:Int) (n:Nat) (hl:n≤16777216) (h0:0≤k0) (h1:k0≤1099511627776):ae Tryz.prog 100 [.sc (.sl 0 0 n),.sc (.int .i64 k0)] [some ⟨(fj iC 4 k0 n).map AddrD.cs,4,88,false,true⟩] (.sc (.int .i64 (k0+4*(n:Int)))) [some ⟨(fj iC 4 k0 n).map AddrD.cs,4,88,false,true⟩]:=by
 have hg:(fj iC 4 k0 n).length=n:=eK
 refine qE Tryz.func100 Tryz.ntmps100 Tryz.results100 fun E hE=>?_
 refine an 1 hE (fun s (x:Nat×Int)=>s.at (qU [4,1,6,46]) [(5,.sc (.int .i64 (x.1:Nat))),(1,.sc (.int .i64 x.2))] (s.hp)) (fun (x:Nat×Int)=>x.1≤n∧x.2=k0+4*(x.1:Int)) (fun (x:Nat×Int)=>n - x.1) (0,k0) (qI 0 1) (qC) (⟨Nat.zero_le _,by simp⟩) (af (by rfl) (by rfl) ?_) fun x hx N hN=>?_
 ·exact qY
 obtain⟨i,k⟩:=x
 obtain⟨hx1,hx3⟩:=hx
 dsimp only at hx1 hx3
 refine qR ?_
 refine qB (fun h=>?_) fun h=>?_
 ·have hi:i < (fj iC 4 k0 n).length:=by omega
  have he:=jC hi
  rw [←hx3] at he
  try simp (disch:=omega) only [go_sem,seval,ao hi,he,iC]
  refine⟨qC,hN _ (i+1,k+1+1+1+1) (qI 0 1) (by (try dsimp only);exact⟨by omega,by omega⟩) (by (try dsimp only);omega) (af (by rfl) (by rfl) ?_)⟩
  try simp (disch:=omega) only [go_sem,seval]
  try omega
 have e:i=n:=by omega
 subst e
 refine ah (qI 0 1) (qC) _ (by simp only [go_sem];rfl) (by rfl) (by rfl) ?_
 simp (disch:=omega) only [go_sem,seval]
 try exact hx3
def jb (k:Int):HalfD:=⟨⟨k,k+1,k+1+1⟩,k+1+1+1,k+1+1+1+1,k+1+1+1+1+1,k+1+1+1+1+1+1,k+1+1+1+1+1+1+1⟩
theorem o_ (l:List HalfD) (k0:Int) (hl:l.length≤16777216) (h0:0≤k0) (h1:k0≤1099511627776):ae Tryz.prog 97 [.sc (.sl 0 0 l.length),.sc (.int .i64 k0)] [some ⟨l.map HalfD.cs,8,213,true,true⟩] (.sc (.int .i64 (k0+8*(l.length:Int)))) [some ⟨(fj jb 8 k0 l.length).map HalfD.cs,8,213,true,true⟩]:=by
 refine qE Tryz.func97 Tryz.ntmps97 Tryz.results97 fun E hE=>?_
 refine an 1 hE (fun s (x:Nat×Int×List HalfD)=>s.at (qU [6,65]) [(5,.sc (.int .i64 (x.1:Nat))),(1,.sc (.int .i64 x.2.1))] ([some ⟨x.2.2.map HalfD.cs,8,213,true,true⟩])) (fun (x:Nat×Int×List HalfD)=>x.1≤l.length∧x.2.2.length=l.length∧x.2.1=k0+8*(x.1:Int)∧x.2.2.take x.1=fj jb 8 k0 x.1) (fun (x:Nat×Int×List HalfD)=>l.length - x.1) (0,k0,l) (qI 0 1) (qC) (⟨Nat.zero_le _,rfl,by simp,rfl⟩) (af (by rfl) (by rfl) ?_) fun x hx N hN=>?_
 ·exact qY
 obtain⟨i,k,m⟩:=x
 obtain⟨hx1,hx2,hx3,hx4⟩:=hx
 dsimp only at hx1 hx2 hx3 hx4
 refine qR ?_
 refine qB (fun h=>?_) fun h=>?_
 ·have hi:i < m.length:=by omega
  try simp (disch:=omega) only [go_sem,seval,ao hi,dA hi]
  have ht:=gq hi (jb k)
  rw [hx4,hx3,←ix,←hx3] at ht
  refine⟨qC,hN _ (i+1,k+1+1+1+1+1+1+1+1,m.set i (jb k)) (qI 0 1) (by (try dsimp only);exact⟨by omega,by simp;omega,by omega,ht⟩) (by (try dsimp only);omega) (af (by rfl) (by rfl) ?_)⟩
  try simp (disch:=omega) only [go_sem,seval]
  try exact⟨by omega,bl rfl⟩
  try exact bl rfl
 have e:i=l.length:=by omega
 subst e
 rw [List.take_of_length_le (by omega)] at hx4
 subst hx4
 refine ah (qI 0 1) (qC) _ (by simp only [go_sem];rfl) (by rfl) (by rfl) ?_
 simp (disch:=omega) only [go_sem,seval]
 try exact hx3
 try exact⟨hx3,rfl⟩
theorem pc (k0:Int) (n:Nat) (hl:n≤16777216) (h0:0≤k0) (h1:k0≤1099511627776):ae Tryz.prog 102 [.sc (.sl 0 0 n),.sc (.int .i64 k0)] [some ⟨(fj jb 8 k0 n).map HalfD.cs,8,213,false,true⟩] (.sc (.int .i64 (k0+8*(n:Int)))) [some ⟨(fj jb 8 k0 n).map HalfD.cs,8,213,false,true⟩]:=by
 have hg:(fj jb 8 k0 n).length=n:=eK
 refine qE Tryz.func102 Tryz.ntmps102 Tryz.results102 fun E hE=>?_
 refine an 1 hE (fun s (x:Nat×Int)=>s.at (qU [4,1,6,81]) [(5,.sc (.int .i64 (x.1:Nat))),(1,.sc (.int .i64 x.2))] (s.hp)) (fun (x:Nat×Int)=>x.1≤n∧x.2=k0+8*(x.1:Int)) (fun (x:Nat×Int)=>n - x.1) (0,k0) (qI 0 1) (qC) (⟨Nat.zero_le _,by simp⟩) (af (by rfl) (by rfl) ?_) fun x hx N hN=>?_
 ·exact qY
 obtain⟨i,k⟩:=x
 obtain⟨hx1,hx3⟩:=hx
 dsimp only at hx1 hx3
 refine qR ?_
 refine qB (fun h=>?_) fun h=>?_
 ·have hi:i < (fj jb 8 k0 n).length:=by omega
  have he:=jC hi
  rw [←hx3] at he
  try simp (disch:=omega) only [go_sem,seval,ao hi,he,jb]
  refine⟨qC,hN _ (i+1,k+1+1+1+1+1+1+1+1) (qI 0 1) (by (try dsimp only);exact⟨by omega,by omega⟩) (by (try dsimp only);omega) (af (by rfl) (by rfl) ?_)⟩
  try simp (disch:=omega) only [go_sem,seval]
  try omega
 have e:i=n:=by omega
 subst e
 refine ah (qI 0 1) (qC) _ (by simp only [go_sem];rfl) (by rfl) (by rfl) ?_
 simp (disch:=omega) only [go_sem,seval]
 try exact hx3
def lH (k:Int):TagD:=⟨k,k+1,k+1+1,k+1+1+1,k+1+1+1+1⟩
theorem rI (l:List TagD) (k0:Int) (hl:l.length≤16777216) (h0:0≤k0) (h1:k0≤1099511627776):ae Tryz.prog 99 [.sc (.sl 0 0 l.length),.sc (.int .i64 k0)] [some ⟨l.map TagD.cs,5,89,true,true⟩] (.sc (.int .i64 (k0+5*(l.length:Int)))) [some ⟨(fj lH 5 k0 l.length).map TagD.cs,5,89,true,true⟩]:=by
 refine qE Tryz.func99 Tryz.ntmps99 Tryz.results99 fun E hE=>?_
 refine an 1 hE (fun s (x:Nat×Int×List TagD)=>s.at (qU [6,41]) [(5,.sc (.int .i64 (x.1:Nat))),(1,.sc (.int .i64 x.2.1))] ([some ⟨x.2.2.map TagD.cs,5,89,true,true⟩])) (fun (x:Nat×Int×List TagD)=>x.1≤l.length∧x.2.2.length=l.length∧x.2.1=k0+5*(x.1:Int)∧x.2.2.take x.1=fj lH 5 k0 x.1) (fun (x:Nat×Int×List TagD)=>l.length - x.1) (0,k0,l) (qI 0 1) (qC) (⟨Nat.zero_le _,rfl,by simp,rfl⟩) (af (by rfl) (by rfl) ?_) fun x hx N hN=>?_
 ·exact qY
 obtain⟨i,k,m⟩:=x
 obtain⟨hx1,hx2,hx3,hx4⟩:=hx
 dsimp only at hx1 hx2 hx3 hx4
 refine qR ?_
 refine qB (fun h=>?_) fun h=>?_
 ·have hi:i < m.length:=by omega
  try simp (disch:=omega) only [go_sem,seval,ao hi,dA hi]
  have ht:=gq hi (lH k)
  rw [hx4,hx3,←ix,←hx3] at ht
  refine⟨qC,hN _ (i+1,k+1+1+1+1+1,m.set i (lH k)) (qI 0 1) (by (try dsimp only);exact⟨by omega,by simp;omega,by omega,ht⟩) (by (try dsimp only);omega) (af (by rfl) (by rfl) ?_)⟩
  try simp (disch:=omega) only [go_sem,seval]
  try exact⟨by omega,bl rfl⟩
  try exact bl rfl
 have e:i=l.length:=by omega
 subst e
 rw [List.take_of_length_le (by omega)] at hx4
 subst hx4
 refine ah (qI 0 1) (qC) _ (by simp only [go_sem];rfl) (by rfl) (by rfl) ?_
 simp (disch:=omega) only [go_sem,seval]
 try exact hx3
 try exact⟨hx3,rfl⟩
theorem rJ (k0:Int) (n:Nat) (hl:n≤16777216) (h0:0≤k0) (h1:k0≤1099511627776):ae Tryz.prog 104 [.sc (.sl 0 0 n),.sc (.int .i64 k0)] [some ⟨(fj lH 5 k0 n).map TagD.cs,5,89,false,true⟩] (.sc (.int .i64 (k0+5*(n:Int)))) [some ⟨(fj lH 5 k0 n).map TagD.cs,5,89,false,true⟩]:=by
 have hg:(fj lH 5 k0 n).length=n:=eK
 refine qE Tryz.func104 Tryz.ntmps104 Tryz.results104 fun E hE=>?_
 refine an 1 hE (fun s (x:Nat×Int)=>s.at (qU [4,1,6,51]) [(5,.sc (.int .i64 (x.1:Nat))),(1,.sc (.int .i64 x.2))] (s.hp)) (fun (x:Nat×Int)=>x.1≤n∧x.2=k0+5*(x.1:Int)) (fun (x:Nat×Int)=>n - x.1) (0,k0) (qI 0 1) (qC) (⟨Nat.zero_le _,by simp⟩) (af (by rfl) (by rfl) ?_) fun x hx N hN=>?_
 ·exact qY
 obtain⟨i,k⟩:=x
 obtain⟨hx1,hx3⟩:=hx
 dsimp only at hx1 hx3
 refine qR ?_
 refine qB (fun h=>?_) fun h=>?_
 ·have hi:i < (fj lH 5 k0 n).length:=by omega
  have he:=jC hi
  rw [←hx3] at he
  try simp (disch:=omega) only [go_sem,seval,ao hi,he,lH]
  refine⟨qC,hN _ (i+1,k+1+1+1+1+1) (qI 0 1) (by (try dsimp only);exact⟨by omega,by omega⟩) (by (try dsimp only);omega) (af (by rfl) (by rfl) ?_)⟩
  try simp (disch:=omega) only [go_sem,seval]
  try omega
 have e:i=n:=by omega
 subst e
 refine ah (qI 0 1) (qC) _ (by simp only [go_sem];rfl) (by rfl) (by rfl) ?_
 simp (disch:=omega) only [go_sem,seval]
 try exact hx3
def dT (k:Int):LetterD:=⟨k,k+1,k+1+1,k+1+1+1,k+1+1+1+1,k+1+1+1+1+1,k+1+1+1+1+1+1,k+1+1+1+1+1+1+1,k+1+1+1+1+1+1+1+1,⟨k+1+1+1+1+1+1+1+1+1,k+1+1+1+1+1+1+1+1+1+1,k+1+1+1+1+1+1+1+1+1+1+1,k+1+1+1+1+1+1+1+1+1+1+1+1,k+1+1+1+1+1+1+1+1+1+1+1+1+1⟩,k+1+1+1+1+1+1+1+1+1+1+1+1+1+1,k+1+1+1+1+1+1+1+1+1+1+1+1+1+1+1,((k+1+1+1+1+1+1+1+1+1+1+1+1+1+1+1+1).tmod 3 == 0),k+1+1+1+1+1+1+1+1+1+1+1+1+1+1+1+1+1,oJ (k+1+1+1+1+1+1+1+1+1+1+1+1+1+1+1+1+1+1)⟩
theorem iZ (l:List LetterD) (k0:Int) (hl:l.length≤16777216) (h0:0≤k0) (h1:k0≤1099511627776):ae Tryz.prog 43 [.sc (.sl 0 0 l.length),.sc (.int .i64 k0)] [some ⟨l.map LetterD.cs,19,91,true,true⟩] (.sc (.int .i64 (k0+19*(l.length:Int)))) [some ⟨(fj dT 19 k0 l.length).map LetterD.cs,19,91,true,true⟩]:=by
 refine qE Tryz.func43 Tryz.ntmps43 Tryz.results43 fun E hE=>?_
 refine an 1 hE (fun s (x:Nat×Int×List LetterD)=>s.at (qU [6,147]) [(5,.sc (.int .i64 (x.1:Nat))),(1,.sc (.int .i64 x.2.1))] ([some ⟨x.2.2.map LetterD.cs,19,91,true,true⟩])) (fun (x:Nat×Int×List LetterD)=>x.1≤l.length∧x.2.2.length=l.length∧x.2.1=k0+19*(x.1:Int)∧x.2.2.take x.1=fj dT 19 k0 x.1) (fun (x:Nat×Int×List LetterD)=>l.length - x.1) (0,k0,l) (qI 0 1) (qC) (⟨Nat.zero_le _,rfl,by simp,rfl⟩) (af (by rfl) (by rfl) ?_) fun x hx N hN=>?_
 ·exact qY
 obtain⟨i,k,m⟩:=x
 obtain⟨hx1,hx2,hx3,hx4⟩:=hx
 dsimp only at hx1 hx2 hx3 hx4
 refine qR ?_
 refine qB (fun h=>?_) fun h=>?_
 ·have hi:i < m.length:=by omega
  try simp (disch:=omega) only [go_sem,seval,ao hi,dA hi]
  refine qK (ec (k+1+1+1+1+1+1+1+1+1+1+1+1+1+1+1+1+1+1) (by omega)) [] ?_
  have ht:=gq hi (dT k)
  rw [hx4,hx3,←ix,←hx3] at ht
  refine⟨qC,hN _ (i+1,k+1+1+1+1+1+1+1+1+1+1+1+1+1+1+1+1+1+1+1,m.set i (dT k)) (qI 0 1) (by (try dsimp only);exact⟨by omega,by simp;omega,by omega,ht⟩) (by (try dsimp only);omega) (af (by rfl) (by rfl) ?_)⟩
  try simp (disch:=omega) only [go_sem,seval]
  try exact⟨by omega,bl rfl⟩
  try exact bl rfl
 have e:i=l.length:=by omega
 subst e
 rw [List.take_of_length_le (by omega)] at hx4
 subst hx4
 refine ah (qI 0 1) (qC) _ (by simp only [go_sem];rfl) (by rfl) (by rfl) ?_
 simp (disch:=omega) only [go_sem,seval]
 try exact hx3
 try exact⟨hx3,rfl⟩
theorem i1 (k0:Int) (n:Nat) (hl:n≤16777216) (h0:0≤k0) (h1:k0≤1099511627776):ae Tryz.prog 46 [.sc (.sl 0 0 n),.sc (.int .i64 k0)] [some ⟨(fj dT 19 k0 n).map LetterD.cs,19,91,false,true⟩] (.sc (.int .i64 (k0+19*(n:Int)))) [some ⟨(fj dT 19 k0 n).map LetterD.cs,19,91,false,true⟩]:=by
 have hg:(fj dT 19 k0 n).length=n:=eK
 refine qE Tryz.func46 Tryz.ntmps46 Tryz.results46 fun E hE=>?_
 refine an 1 hE (fun s (x:Nat×Int)=>s.at (qU [4,1,6,185]) [(5,.sc (.int .i64 (x.1:Nat))),(1,.sc (.int .i64 x.2))] (s.hp)) (fun (x:Nat×Int)=>x.1≤n∧x.2=k0+19*(x.1:Int)) (fun (x:Nat×Int)=>n - x.1) (0,k0) (qI 0 1) (qC) (⟨Nat.zero_le _,by simp⟩) (af (by rfl) (by rfl) ?_) fun x hx N hN=>?_
 ·exact qY
 obtain⟨i,k⟩:=x
 obtain⟨hx1,hx3⟩:=hx
 dsimp only at hx1 hx3
 refine qR ?_
 refine qB (fun h=>?_) fun h=>?_
 ·have hi:i < (fj dT 19 k0 n).length:=by omega
  have he:=jC hi
  rw [←hx3] at he
  try simp (disch:=omega) only [go_sem,seval,ao hi,he,dT]
  refine qD [0,1,2,3,4,5,6,7] ?_
  try simp (disch:=omega) only [go_sem,seval,ao hi,he,dT]
  refine az (ec (k+1+1+1+1+1+1+1+1+1+1+1+1+1+1+1+1+1+1) (by omega)) [] ?_
  refine⟨qC,ac 400 ?_⟩
  try simp (disch:=omega) only [go_sem,seval,dT,beq_self_eq_true]
  refine⟨qC,hN _ (i+1,k+1+1+1+1+1+1+1+1+1+1+1+1+1+1+1+1+1+1+1) (qI 0 1) (by (try dsimp only);exact⟨by omega,by omega⟩) (by (try dsimp only);omega) (af (by rfl) (by rfl) ?_)⟩
  try simp (disch:=omega) only [go_sem,seval]
  try omega
 have e:i=n:=by omega
 subst e
 refine ah (qI 0 1) (qC) _ (by simp only [go_sem];rfl) (by rfl) (by rfl) ?_
 simp (disch:=omega) only [go_sem,seval]
 try exact hx3
def lI (k:Int):SubD:=⟨⟨k,k+1,k+1+1⟩,k+1+1+1,((k+1+1+1+1).tmod 3 == 0),k+1+1+1+1+1,k+1+1+1+1+1+1,k+1+1+1+1+1+1+1,k+1+1+1+1+1+1+1+1,k+1+1+1+1+1+1+1+1+1⟩
theorem rK (l:List SubD) (k0:Int) (hl:l.length≤16777216) (h0:0≤k0) (h1:k0≤1099511627776):ae Tryz.prog 96 [.sc (.sl 0 0 l.length),.sc (.int .i64 k0)] [some ⟨l.map SubD.cs,10,201,true,true⟩] (.sc (.int .i64 (k0+10*(l.length:Int)))) [some ⟨(fj lI 10 k0 l.length).map SubD.cs,10,201,true,true⟩]:=by
 refine qE Tryz.func96 Tryz.ntmps96 Tryz.results96 fun E hE=>?_
 refine an 1 hE (fun s (x:Nat×Int×List SubD)=>s.at (qU [6,81]) [(5,.sc (.int .i64 (x.1:Nat))),(1,.sc (.int .i64 x.2.1))] ([some ⟨x.2.2.map SubD.cs,10,201,true,true⟩])) (fun (x:Nat×Int×List SubD)=>x.1≤l.length∧x.2.2.length=l.length∧x.2.1=k0+10*(x.1:Int)∧x.2.2.take x.1=fj lI 10 k0 x.1) (fun (x:Nat×Int×List SubD)=>l.length - x.1) (0,k0,l) (qI 0 1) (qC) (⟨Nat.zero_le _,rfl,by simp,rfl⟩) (af (by rfl) (by rfl) ?_) fun x hx N hN=>?_
 ·exact qY
 obtain⟨i,k,m⟩:=x
 obtain⟨hx1,hx2,hx3,hx4⟩:=hx
 dsimp only at hx1 hx2 hx3 hx4
 refine qR ?_
 refine qB (fun h=>?_) fun h=>?_
 ·have hi:i < m.length:=by omega
  try simp (disch:=omega) only [go_sem,seval,ao hi,dA hi]
  have ht:=gq hi (lI k)
  rw [hx4,hx3,←ix,←hx3] at ht
  refine⟨qC,hN _ (i+1,k+1+1+1+1+1+1+1+1+1+1,m.set i (lI k)) (qI 0 1) (by (try dsimp only);exact⟨by omega,by simp;omega,by omega,ht⟩) (by (try dsimp only);omega) (af (by rfl) (by rfl) ?_)⟩
  try simp (disch:=omega) only [go_sem,seval]
  try exact⟨by omega,bl rfl⟩
  try exact bl rfl
 have e:i=l.length:=by omega
 subst e
 rw [List.take_of_length_le (by omega)] at hx4
 subst hx4
 refine ah (qI 0 1) (qC) _ (by simp only [go_sem];rfl) (by rfl) (by rfl) ?_
 simp (disch:=omega) only [go_sem,seval]
 try exact hx3
 try exact⟨hx3,rfl⟩
theorem rL (k0:Int) (n:Nat) (hl:n≤16777216) (h0:0≤k0) (h1:k0≤1099511627776):ae Tryz.prog 101 [.sc (.sl 0 0 n),.sc (.int .i64 k0)] [some ⟨(fj lI 10 k0 n).map SubD.cs,10,201,false,true⟩] (.sc (.int .i64 (k0+10*(n:Int)))) [some ⟨(fj lI 10 k0 n).map SubD.cs,10,201,false,true⟩]:=by
 have hg:(fj lI 10 k0 n).length=n:=eK
 refine qE Tryz.func101 Tryz.ntmps101 Tryz.results101 fun E hE=>?_
 refine an 1 hE (fun s (x:Nat×Int)=>s.at (qU [4,1,6,101]) [(5,.sc (.int .i64 (x.1:Nat))),(1,.sc (.int .i64 x.2))] (s.hp)) (fun (x:Nat×Int)=>x.1≤n∧x.2=k0+10*(x.1:Int)) (fun (x:Nat×Int)=>n - x.1) (0,k0) (qI 0 1) (qC) (⟨Nat.zero_le _,by simp⟩) (af (by rfl) (by rfl) ?_) fun x hx N hN=>?_
 ·exact qY
 obtain⟨i,k⟩:=x
 obtain⟨hx1,hx3⟩:=hx
 dsimp only at hx1 hx3
 refine qR ?_
 refine qB (fun h=>?_) fun h=>?_
 ·have hi:i < (fj lI 10 k0 n).length:=by omega
  have he:=jC hi
  rw [←hx3] at he
  try simp (disch:=omega) only [go_sem,seval,ao hi,he,lI]
  refine⟨qC,hN _ (i+1,k+1+1+1+1+1+1+1+1+1+1) (qI 0 1) (by (try dsimp only);exact⟨by omega,by omega⟩) (by (try dsimp only);omega) (af (by rfl) (by rfl) ?_)⟩
  try simp (disch:=omega) only [go_sem,seval]
  try omega
 have e:i=n:=by omega
 subst e
 refine ah (qI 0 1) (qC) _ (by simp only [go_sem];rfl) (by rfl) (by rfl) ?_
 simp (disch:=omega) only [go_sem,seval]
 try exact hx3
def fm (k:Int):PieceD:=⟨k,oJ (k+1)⟩
theorem nV (l:List PieceD) (k0:Int) (hl:l.length≤16777216) (h0:0≤k0) (h1:k0≤1099511627776):ae Tryz.prog 196 [.sc (.sl 0 0 l.length),.sc (.int .i64 k0)] [some ⟨l.map PieceD.cs,2,256,true,true⟩] (.sc (.int .i64 (k0+2*(l.length:Int)))) [some ⟨(fj fm 2 k0 l.length).map PieceD.cs,2,256,true,true⟩]:=by
 refine qE Tryz.func196 Tryz.ntmps196 Tryz.results196 fun E hE=>?_
 refine an 1 hE (fun s (x:Nat×Int×List PieceD)=>s.at (qU [6,21]) [(5,.sc (.int .i64 (x.1:Nat))),(1,.sc (.int .i64 x.2.1))] ([some ⟨x.2.2.map PieceD.cs,2,256,true,true⟩])) (fun (x:Nat×Int×List PieceD)=>x.1≤l.length∧x.2.2.length=l.length∧x.2.1=k0+2*(x.1:Int)∧x.2.2.take x.1=fj fm 2 k0 x.1) (fun (x:Nat×Int×List PieceD)=>l.length - x.1) (0,k0,l) (qI 0 1) (qC) (⟨Nat.zero_le _,rfl,by simp,rfl⟩) (af (by rfl) (by rfl) ?_) fun x hx N hN=>?_
 ·exact qY
 obtain⟨i,k,m⟩:=x
 obtain⟨hx1,hx2,hx3,hx4⟩:=hx
 dsimp only at hx1 hx2 hx3 hx4
 refine qR ?_
 refine qB (fun h=>?_) fun h=>?_
 ·have hi:i < m.length:=by omega
  try simp (disch:=omega) only [go_sem,seval,ao hi,dA hi]
  refine qK (ec (k+1) (by omega)) [] ?_
  have ht:=gq hi (fm k)
  rw [hx4,hx3,←ix,←hx3] at ht
  refine⟨qC,hN _ (i+1,k+1+1,m.set i (fm k)) (qI 0 1) (by (try dsimp only);exact⟨by omega,by simp;omega,by omega,ht⟩) (by (try dsimp only);omega) (af (by rfl) (by rfl) ?_)⟩
  try simp (disch:=omega) only [go_sem,seval]
  try exact⟨by omega,bl rfl⟩
  try exact bl rfl
 have e:i=l.length:=by omega
 subst e
 rw [List.take_of_length_le (by omega)] at hx4
 subst hx4
 refine ah (qI 0 1) (qC) _ (by simp only [go_sem];rfl) (by rfl) (by rfl) ?_
 simp (disch:=omega) only [go_sem,seval]
 try exact hx3
 try exact⟨hx3,rfl⟩
theorem nW (k0:Int) (n:Nat) (hl:n≤16777216) (h0:0≤k0) (h1:k0≤1099511627776):ae Tryz.prog 197 [.sc (.sl 0 0 n),.sc (.int .i64 k0)] [some ⟨(fj fm 2 k0 n).map PieceD.cs,2,256,false,true⟩] (.sc (.int .i64 (k0+2*(n:Int)))) [some ⟨(fj fm 2 k0 n).map PieceD.cs,2,256,false,true⟩]:=by
 have hg:(fj fm 2 k0 n).length=n:=eK
 refine qE Tryz.func197 Tryz.ntmps197 Tryz.results197 fun E hE=>?_
 refine an 1 hE (fun s (x:Nat×Int)=>s.at (qU [4,1,6,25]) [(5,.sc (.int .i64 (x.1:Nat))),(1,.sc (.int .i64 x.2))] (s.hp)) (fun (x:Nat×Int)=>x.1≤n∧x.2=k0+2*(x.1:Int)) (fun (x:Nat×Int)=>n - x.1) (0,k0) (qI 0 1) (qC) (⟨Nat.zero_le _,by simp⟩) (af (by rfl) (by rfl) ?_) fun x hx N hN=>?_
 ·exact qY
 obtain⟨i,k⟩:=x
 obtain⟨hx1,hx3⟩:=hx
 dsimp only at hx1 hx3
 refine qR ?_
 refine qB (fun h=>?_) fun h=>?_
 ·have hi:i < (fj fm 2 k0 n).length:=by omega
  have he:=jC hi
  rw [←hx3] at he
  try simp (disch:=omega) only [go_sem,seval,ao hi,he,fm]
  refine qD [0,1,2,3,4,5,6,7] ?_
  try simp (disch:=omega) only [go_sem,seval,ao hi,he,fm]
  refine az (ec (k+1) (by omega)) [] ?_
  refine⟨qC,ac 400 ?_⟩
  try simp (disch:=omega) only [go_sem,seval,fm,beq_self_eq_true]
  refine⟨qC,hN _ (i+1,k+1+1) (qI 0 1) (by (try dsimp only);exact⟨by omega,by omega⟩) (by (try dsimp only);omega) (af (by rfl) (by rfl) ?_)⟩
  try simp (disch:=omega) only [go_sem,seval]
  try omega
 have e:i=n:=by omega
 subst e
 refine ah (qI 0 1) (qC) _ (by simp only [go_sem];rfl) (by rfl) (by rfl) ?_
 simp (disch:=omega) only [go_sem,seval]
 try exact hx3
def PiecesD.cnt (x:PiecesD):Int:=2*(x.list.length:Int)
def dJ (x:PiecesD) (k:Int):PiecesD:={ x with list:=fj fm 2 (k) x.list.length }
theorem PiecesD.cnt_le (x:PiecesD) (l0:x.list.length≤1048576):0≤x.cnt∧x.cnt≤39845888:=by
 unfold PiecesD.cnt
 omega
theorem nX (x:PiecesD) (k0:Int) (l0:x.list.length≤1048576) (h0:0≤k0) (h1:k0≤549755813888):ae Tryz.prog 98 [.ag (x.cs 0),.sc (.int .i64 k0)] (x.hp true) (.sc (.int .i64 (k0+x.cnt))) ((dJ x k0).hp true):=by
 simp only [dJ]
 refine qE Tryz.func98 Tryz.ntmps98 Tryz.results98 fun E hE=>?_
 refine qK (nV x.list (k0) (by omega) (by omega) (by omega)) (qI 0 1) ?_
 refine ah (qI 0 1) (qC) _ (by simp only [go_sem];rfl) (by rfl) (by rfl) ?_
 simp (disch:=omega) only [go_sem,seval]
 try simp only [PiecesD.cnt]
 try omega
theorem nY (x:PiecesD) (k0:Int) (l0:x.list.length≤1048576) (h0:0≤k0) (h1:k0≤549755813888):ae Tryz.prog 103 [.ag ((dJ x k0).cs 0),.sc (.int .i64 k0)] ((dJ x k0).hp false) (.sc (.int .i64 (k0+x.cnt))) ((dJ x k0).hp false):=by
 simp only [dJ]
 refine qE Tryz.func103 Tryz.ntmps103 Tryz.results103 fun E hE=>?_
 refine qK (nW (k0) x.list.length (by omega) (by omega) (by omega)) (qI 0 1) ?_
 refine ah (qI 0 1) (qC) _ (by simp only [go_sem];rfl) (by rfl) (by rfl) ?_
 simp (disch:=omega) only [go_sem,seval]
 try simp only [PiecesD.cnt]
 try omega
def KnownD.cnt (x:KnownD):Int:=1*(x.keys.length:Int)+5*(x.tags.length:Int)
def d5 (x:KnownD) (k:Int):KnownD:={ x with keys:=fj iy 1 (k) x.keys.length,tags:=fj lH 5 (k+1*(x.keys.length:Int)) x.tags.length }
theorem KnownD.cnt_le (x:KnownD) (l0:x.keys.length≤1048576) (l1:x.tags.length≤1048576):0≤x.cnt∧x.cnt≤79691776:=by
 unfold KnownD.cnt
 omega
theorem pd (x:KnownD) (k0:Int) (l0:x.keys.length≤1048576) (l1:x.tags.length≤1048576) (h0:0≤k0) (h1:k0≤549755813888):ae Tryz.prog 44 [.ag (x.cs 0),.sc (.int .i64 k0)] (x.hp true) (.sc (.int .i64 (k0+x.cnt))) ((d5 x k0).hp true):=by
 simp only [d5]
 refine qE Tryz.func44 Tryz.ntmps44 Tryz.results44 fun E hE=>?_
 refine qK (bN x.keys (k0) (by omega) (by omega) (by omega)) (qI 0 1) ?_
 refine qK (rI x.tags (k0+1*(x.keys.length:Int)) (by omega) (by omega) (by omega)) (qI 1 1) ?_
 refine ah (qI 0 2) (qC) _ (by simp only [go_sem];rfl) (by rfl) (by rfl) ?_
 simp (disch:=omega) only [go_sem,seval]
 try simp only [KnownD.cnt]
 try omega
theorem pe (x:KnownD) (k0:Int) (l0:x.keys.length≤1048576) (l1:x.tags.length≤1048576) (h0:0≤k0) (h1:k0≤549755813888):ae Tryz.prog 47 [.ag ((d5 x k0).cs 0),.sc (.int .i64 k0)] ((d5 x k0).hp false) (.sc (.int .i64 (k0+x.cnt))) ((d5 x k0).hp false):=by
 simp only [d5]
 refine qE Tryz.func47 Tryz.ntmps47 Tryz.results47 fun E hE=>?_
 refine qK (ed (k0) x.keys.length (by omega) (by omega) (by omega)) (qI 0 1) ?_
 refine qK (rJ (k0+1*(x.keys.length:Int)) x.tags.length (by omega) (by omega) (by omega)) (qI 1 1) ?_
 refine ah (qI 0 2) (qC) _ (by simp only [go_sem];rfl) (by rfl) (by rfl) ?_
 simp (disch:=omega) only [go_sem,seval]
 try simp only [KnownD.cnt]
 try omega
def EndD.cnt (x:EndD):Int:=4*(x.own.length:Int)+4*(x.far.length:Int)+10*(x.subs.length:Int)+8*(x.halfs.length:Int)+PiecesD.cnt x.inp+1*(x.done.length:Int)+1*(x.over.length:Int)
def eW (x:EndD) (k:Int):EndD:={ x with own:=fj iC 4 (k) x.own.length,far:=fj iC 4 (k+4*(x.own.length:Int)) x.far.length,subs:=fj lI 10 (k+4*(x.own.length:Int)+4*(x.far.length:Int)) x.subs.length,halfs:=fj jb 8 (k+4*(x.own.length:Int)+4*(x.far.length:Int)+10*(x.subs.length:Int)) x.halfs.length,inp:=dJ x.inp (k+4*(x.own.length:Int)+4*(x.far.length:Int)+10*(x.subs.length:Int)+8*(x.halfs.length:Int)),done:=fj iy 1 (k+4*(x.own.length:Int)+4*(x.far.length:Int)+10*(x.subs.length:Int)+8*(x.halfs.length:Int)+PiecesD.cnt x.inp) x.done.length,over:=fj iy 1 (k+4*(x.own.length:Int)+4*(x.far.length:Int)+10*(x.subs.length:Int)+8*(x.halfs.length:Int)+PiecesD.cnt x.inp+1*(x.done.length:Int)) x.over.length }
theorem EndD.cnt_le (x:EndD) (l0:x.own.length≤1048576) (l1:x.far.length≤1048576) (l2:x.subs.length≤1048576) (l3:x.halfs.length≤1048576) (l4:x.inp.list.length≤1048576) (l5:x.done.length≤1048576) (l6:x.over.length≤1048576):0≤x.cnt∧x.cnt≤278921216:=by
 have:=PiecesD.cnt_le x.inp l4
 unfold EndD.cnt
 omega
theorem lJ (x:EndD) (k0:Int) (l0:x.own.length≤1048576) (l1:x.far.length≤1048576) (l2:x.subs.length≤1048576) (l3:x.halfs.length≤1048576) (l4:x.inp.list.length≤1048576) (l5:x.done.length≤1048576) (l6:x.over.length≤1048576) (h0:0≤k0) (h1:k0≤274877906944):ae Tryz.prog 42 [.ag (x.cs 0),.sc (.int .i64 k0)] (x.hp true) (.sc (.int .i64 (k0+x.cnt))) ((eW x k0).hp true):=by
 have c_inp:=PiecesD.cnt_le x.inp l4
 simp only [eW]
 refine qE Tryz.func42 Tryz.ntmps42 Tryz.results42 fun E hE=>?_
 refine qK (j1 x.own (k0) (by omega) (by omega) (by omega)) (qI 0 1) ?_
 refine qK (j1 x.far (k0+4*(x.own.length:Int)) (by omega) (by omega) (by omega)) (qI 1 1) ?_
 refine qK (rK x.subs (k0+4*(x.own.length:Int)+4*(x.far.length:Int)) (by omega) (by omega) (by omega)) (qI 2 1) ?_
 refine qK (o_ x.halfs (k0+4*(x.own.length:Int)+4*(x.far.length:Int)+10*(x.subs.length:Int)) (by omega) (by omega) (by omega)) (qI 3 1) ?_
 refine qK (nX x.inp (k0+4*(x.own.length:Int)+4*(x.far.length:Int)+10*(x.subs.length:Int)+8*(x.halfs.length:Int)) l4 (by omega) (by omega)) (qI 4 1) ?_
 refine qK (bN x.done (k0+4*(x.own.length:Int)+4*(x.far.length:Int)+10*(x.subs.length:Int)+8*(x.halfs.length:Int)+PiecesD.cnt x.inp) (by omega) (by omega) (by omega)) (qI 5 1) ?_
 refine qK (bN x.over (k0+4*(x.own.length:Int)+4*(x.far.length:Int)+10*(x.subs.length:Int)+8*(x.halfs.length:Int)+PiecesD.cnt x.inp+1*(x.done.length:Int)) (by omega) (by omega) (by omega)) (qI 6 1) ?_
 refine ah (qI 0 7) (qC) _ (by simp only [go_sem];rfl) (by rfl) (by rfl) ?_
 simp (disch:=omega) only [go_sem,seval]
 try simp only [EndD.cnt]
 try omega
theorem lK (x:EndD) (k0:Int) (l0:x.own.length≤1048576) (l1:x.far.length≤1048576) (l2:x.subs.length≤1048576) (l3:x.halfs.length≤1048576) (l4:x.inp.list.length≤1048576) (l5:x.done.length≤1048576) (l6:x.over.length≤1048576) (h0:0≤k0) (h1:k0≤274877906944):ae Tryz.prog 45 [.ag ((eW x k0).cs 0),.sc (.int .i64 k0)] ((eW x k0).hp false) (.sc (.int .i64 (k0+x.cnt))) ((eW x k0).hp false):=by
 have c_inp:=PiecesD.cnt_le x.inp l4
 simp only [eW]
 refine qE Tryz.func45 Tryz.ntmps45 Tryz.results45 fun E hE=>?_
 refine qK (j2 (k0) x.own.length (by omega) (by omega) (by omega)) (qI 0 1) ?_
 refine qK (j2 (k0+4*(x.own.length:Int)) x.far.length (by omega) (by omega) (by omega)) (qI 1 1) ?_
 refine qK (rL (k0+4*(x.own.length:Int)+4*(x.far.length:Int)) x.subs.length (by omega) (by omega) (by omega)) (qI 2 1) ?_
 refine qK (pc (k0+4*(x.own.length:Int)+4*(x.far.length:Int)+10*(x.subs.length:Int)) x.halfs.length (by omega) (by omega) (by omega)) (qI 3 1) ?_
 refine qK (nY x.inp (k0+4*(x.own.length:Int)+4*(x.far.length:Int)+10*(x.subs.length:Int)+8*(x.halfs.length:Int)) l4 (by omega) (by omega)) (qI 4 1) ?_
 refine qK (ed (k0+4*(x.own.length:Int)+4*(x.far.length:Int)+10*(x.subs.length:Int)+8*(x.halfs.length:Int)+PiecesD.cnt x.inp) x.done.length (by omega) (by omega) (by omega)) (qI 5 1) ?_
 refine qK (ed (k0+4*(x.own.length:Int)+4*(x.far.length:Int)+10*(x.subs.length:Int)+8*(x.halfs.length:Int)+PiecesD.cnt x.inp+1*(x.done.length:Int)) x.over.length (by omega) (by omega) (by omega)) (qI 6 1) ?_
 refine ah (qI 0 7) (qC) _ (by simp only [go_sem];rfl) (by rfl) (by rfl) ?_
 simp (disch:=omega) only [go_sem,seval]
 try simp only [EndD.cnt]
 try omega
def WorldD.cnt (x:WorldD):Int:=EndD.cnt x.a+EndD.cnt x.b+19*(x.bag.length:Int)+19*(x.past.length:Int)+KnownD.cnt x.known+1*(x.nums.length:Int)+1*(x.answersA.length:Int)+1*(x.answersB.length:Int)
def eO (x:WorldD) (k:Int):WorldD:={ x with a:=eW x.a (k),b:=eW x.b (k+EndD.cnt x.a),bag:=fj dT 19 (k+EndD.cnt x.a+EndD.cnt x.b) x.bag.length,past:=fj dT 19 (k+EndD.cnt x.a+EndD.cnt x.b+19*(x.bag.length:Int)) x.past.length,known:=d5 x.known (k+EndD.cnt x.a+EndD.cnt x.b+19*(x.bag.length:Int)+19*(x.past.length:Int)),nums:=fj iy 1 (k+EndD.cnt x.a+EndD.cnt x.b+19*(x.bag.length:Int)+19*(x.past.length:Int)+KnownD.cnt x.known) x.nums.length,answersA:=fj iy 1 (k+EndD.cnt x.a+EndD.cnt x.b+19*(x.bag.length:Int)+19*(x.past.length:Int)+KnownD.cnt x.known+1*(x.nums.length:Int)) x.answersA.length,answersB:=fj iy 1 (k+EndD.cnt x.a+EndD.cnt x.b+19*(x.bag.length:Int)+19*(x.past.length:Int)+KnownD.cnt x.known+1*(x.nums.length:Int)+1*(x.answersA.length:Int)) x.answersB.length }
theorem WorldD.cnt_le (x:WorldD) (l0:x.a.own.length≤1048576) (l1:x.a.far.length≤1048576) (l2:x.a.subs.length≤1048576) (l3:x.a.halfs.length≤1048576) (l4:x.a.inp.list.length≤1048576) (l5:x.a.done.length≤1048576) (l6:x.a.over.length≤1048576) (l7:x.b.own.length≤1048576) (l8:x.b.far.length≤1048576) (l9:x.b.subs.length≤1048576) (l10:x.b.halfs.length≤1048576) (l11:x.b.inp.list.length≤1048576) (l12:x.b.done.length≤1048576) (l13:x.b.over.length≤1048576) (l14:x.bag.length≤1048576) (l15:x.past.length≤1048576) (l16:x.known.keys.length≤1048576) (l17:x.known.tags.length≤1048576) (l18:x.nums.length≤1048576) (l19:x.answersA.length≤1048576) (l20:x.answersB.length≤1048576):0≤x.cnt∧x.cnt≤836763648:=by
 have:=EndD.cnt_le x.a l0 l1 l2 l3 l4 l5 l6
 have:=EndD.cnt_le x.b l7 l8 l9 l10 l11 l12 l13
 have:=KnownD.cnt_le x.known l16 l17
 unfold WorldD.cnt
 omega
theorem pf (x:WorldD) (k0:Int) (l0:x.a.own.length≤1048576) (l1:x.a.far.length≤1048576) (l2:x.a.subs.length≤1048576) (l3:x.a.halfs.length≤1048576) (l4:x.a.inp.list.length≤1048576) (l5:x.a.done.length≤1048576) (l6:x.a.over.length≤1048576) (l7:x.b.own.length≤1048576) (l8:x.b.far.length≤1048576) (l9:x.b.subs.length≤1048576) (l10:x.b.halfs.length≤1048576) (l11:x.b.inp.list.length≤1048576) (l12:x.b.done.length≤1048576) (l13:x.b.over.length≤1048576) (l14:x.bag.length≤1048576) (l15:x.past.length≤1048576) (l16:x.known.keys.length≤1048576) (l17:x.known.tags.length≤1048576) (l18:x.nums.length≤1048576) (l19:x.answersA.length≤1048576) (l20:x.answersB.length≤1048576) (h0:0≤k0) (h1:k0≤137438953472):ae Tryz.prog 19 [.ag (x.cs 0),.sc (.int .i64 k0)] (x.hp true) (.sc (.int .i64 (k0+x.cnt))) ((eO x k0).hp true):=by
 have c_a:=EndD.cnt_le x.a l0 l1 l2 l3 l4 l5 l6
 have c_b:=EndD.cnt_le x.b l7 l8 l9 l10 l11 l12 l13
 have c_known:=KnownD.cnt_le x.known l16 l17
 simp only [eO]
 refine qE Tryz.func19 Tryz.ntmps19 Tryz.results19 fun E hE=>?_
 refine qK (lJ x.a (k0) l0 l1 l2 l3 l4 l5 l6 (by omega) (by omega)) (qI 0 7) ?_
 refine qK (lJ x.b (k0+EndD.cnt x.a) l7 l8 l9 l10 l11 l12 l13 (by omega) (by omega)) (qI 7 7) ?_
 refine qK (iZ x.bag (k0+EndD.cnt x.a+EndD.cnt x.b) (by omega) (by omega) (by omega)) (qI 14 1) ?_
 refine qK (iZ x.past (k0+EndD.cnt x.a+EndD.cnt x.b+19*(x.bag.length:Int)) (by omega) (by omega) (by omega)) (qI 15 1) ?_
 refine qK (pd x.known (k0+EndD.cnt x.a+EndD.cnt x.b+19*(x.bag.length:Int)+19*(x.past.length:Int)) l16 l17 (by omega) (by omega)) (qI 16 2) ?_
 refine qK (bN x.nums (k0+EndD.cnt x.a+EndD.cnt x.b+19*(x.bag.length:Int)+19*(x.past.length:Int)+KnownD.cnt x.known) (by omega) (by omega) (by omega)) (qI 18 1) ?_
 refine qK (bN x.answersA (k0+EndD.cnt x.a+EndD.cnt x.b+19*(x.bag.length:Int)+19*(x.past.length:Int)+KnownD.cnt x.known+1*(x.nums.length:Int)) (by omega) (by omega) (by omega)) (qI 19 1) ?_
 refine qK (bN x.answersB (k0+EndD.cnt x.a+EndD.cnt x.b+19*(x.bag.length:Int)+19*(x.past.length:Int)+KnownD.cnt x.known+1*(x.nums.length:Int)+1*(x.answersA.length:Int)) (by omega) (by omega) (by omega)) (qI 20 1) ?_
 refine ah (qI 0 21) (qC) _ (by simp only [go_sem];rfl) (by rfl) (by rfl) ?_
 simp (disch:=omega) only [go_sem,seval]
 try simp only [WorldD.cnt]
 try omega
theorem j3 (x:WorldD) (k0:Int) (l0:x.a.own.length≤1048576) (l1:x.a.far.length≤1048576) (l2:x.a.subs.length≤1048576) (l3:x.a.halfs.length≤1048576) (l4:x.a.inp.list.length≤1048576) (l5:x.a.done.length≤1048576) (l6:x.a.over.length≤1048576) (l7:x.b.own.length≤1048576) (l8:x.b.far.length≤1048576) (l9:x.b.subs.length≤1048576) (l10:x.b.halfs.length≤1048576) (l11:x.b.inp.list.length≤1048576) (l12:x.b.done.length≤1048576) (l13:x.b.over.length≤1048576) (l14:x.bag.length≤1048576) (l15:x.past.length≤1048576) (l16:x.known.keys.length≤1048576) (l17:x.known.tags.length≤1048576) (l18:x.nums.length≤1048576) (l19:x.answersA.length≤1048576) (l20:x.answersB.length≤1048576) (h0:0≤k0) (h1:k0≤137438953472):ae Tryz.prog 21 [.ag ((eO x k0).cs 0),.sc (.int .i64 k0)] ((eO x k0).hp false) (.sc (.int .i64 (k0+x.cnt))) ((eO x k0).hp false):=by
 have c_a:=EndD.cnt_le x.a l0 l1 l2 l3 l4 l5 l6
 have c_b:=EndD.cnt_le x.b l7 l8 l9 l10 l11 l12 l13
 have c_known:=KnownD.cnt_le x.known l16 l17
 simp only [eO]
 refine qE Tryz.func21 Tryz.ntmps21 Tryz.results21 fun E hE=>?_
 refine qK (lK x.a (k0) l0 l1 l2 l3 l4 l5 l6 (by omega) (by omega)) (qI 0 7) ?_
 refine qK (lK x.b (k0+EndD.cnt x.a) l7 l8 l9 l10 l11 l12 l13 (by omega) (by omega)) (qI 7 7) ?_
 refine qK (i1 (k0+EndD.cnt x.a+EndD.cnt x.b) x.bag.length (by omega) (by omega) (by omega)) (qI 14 1) ?_
 refine qK (i1 (k0+EndD.cnt x.a+EndD.cnt x.b+19*(x.bag.length:Int)) x.past.length (by omega) (by omega) (by omega)) (qI 15 1) ?_
 refine qK (pe x.known (k0+EndD.cnt x.a+EndD.cnt x.b+19*(x.bag.length:Int)+19*(x.past.length:Int)) l16 l17 (by omega) (by omega)) (qI 16 2) ?_
 refine qK (ed (k0+EndD.cnt x.a+EndD.cnt x.b+19*(x.bag.length:Int)+19*(x.past.length:Int)+KnownD.cnt x.known) x.nums.length (by omega) (by omega) (by omega)) (qI 18 1) ?_
 refine qK (ed (k0+EndD.cnt x.a+EndD.cnt x.b+19*(x.bag.length:Int)+19*(x.past.length:Int)+KnownD.cnt x.known+1*(x.nums.length:Int)) x.answersA.length (by omega) (by omega) (by omega)) (qI 19 1) ?_
 refine qK (ed (k0+EndD.cnt x.a+EndD.cnt x.b+19*(x.bag.length:Int)+19*(x.past.length:Int)+KnownD.cnt x.known+1*(x.nums.length:Int)+1*(x.answersA.length:Int)) x.answersB.length (by omega) (by omega) (by omega)) (qI 20 1) ?_
 refine ah (qI 0 21) (qC) _ (by simp only [go_sem];rfl) (by rfl) (by rfl) ?_
 simp (disch:=omega) only [go_sem,seval]
 try simp only [WorldD.cnt]
 try omega
end
section
open Go.RowKit
theorem WorldD.txt_le {x:WorldD} {m r:Int} (hm0:0≤m) (hm:m≤1048576) (h:aU m x.szL=r) (h0:0≤r):(∀ y∈x.a.inp.list,y.text.length≤1048576)∧(∀ y∈x.b.inp.list,y.text.length≤1048576):=by
 have k:=fc hm0 x.szL_nn (by rw [h];exact h0)
 refine⟨fun y hy=>?_,fun y hy=>?_⟩
 ·have:=k (y.text.length:Int) (by
   simp only [WorldD.szL,EndD.szL,PiecesD.szL,ax,List.mem_append,List.mem_cons,List.mem_map]
   refine .inl (.inr (.inr (.inr (.inr (.inr (.inl (.inr (.inl (.inr ⟨y,hy,rfl⟩)))))))))
   )
  omega
 have:=k (y.text.length:Int) (by
  simp only [WorldD.szL,EndD.szL,PiecesD.szL,ax,List.mem_append,List.mem_cons,List.mem_map]
  refine .inr (.inl (.inr (.inr (.inr (.inr (.inr (.inl (.inr (.inl (.inr ⟨y,hy,rfl⟩))))))))))
  )
 omega
end
section
open Go.RowKit
attribute [go_sem] eO eW dJ d5
theorem p6 (a0:WorldD) (w0:a0.wf) (a1:Int) (w1:I64 a1):ae Tryz.prog 7 [.ag (a0.cs 0),.sc (.int .i64 a1)] (a0.hpL) (.sc (.bo true)) (a0.hpL):=by
 refine ga Tryz.func7 Tryz.ntmps7 Tryz.results7 fun E hE=>?_
 refine qK (vr a0 1048576 w0 (by omega) (by omega)) (qI 0 21) ?_
 generalize hr0:aU 1048576 a0.szL=r0
 have hb0:=bL (by omega) a0.szL_nn hr0
 refine qB (fun h0=>?_) fun h0=>?_
 ·exact cc (qI 0 21)
 have hn0:0≤r0:=by omega
 have hm0:r0≤1048576:=by omega
 obtain⟨l0_0,l0_1,l0_2,l0_3,l0_4,l0_5,l0_6,l0_7,l0_8,l0_9,l0_10,l0_11,l0_12,l0_13,l0_14,l0_15,l0_16,l0_17,l0_18,l0_19,l0_20⟩:=WorldD.sz_le (by omega) (by omega) hr0 hn0
 obtain⟨s0_0,s0_1,s0_2,s0_3,s0_4,s0_5,s0_6,s0_7⟩:=WorldD.str_le (by omega) (by omega) hr0 hn0
 obtain⟨x0_0,x0_1⟩:=WorldD.txt_le (by omega) (by omega) hr0 hn0
 refine qX ?_
 have hg0:GoodW a0 1:=⟨⟨⟨l0_0,l0_1,l0_2,l0_3,l0_4,l0_5,l0_6⟩,⟨l0_4,s0_1,x0_0⟩,s0_0⟩,⟨⟨l0_7,l0_8,l0_9,l0_10,l0_11,l0_12,l0_13⟩,⟨l0_11,s0_3,x0_1⟩,s0_2⟩,⟨l0_14,l0_15,l0_16,l0_17,l0_18,l0_19,l0_20⟩,by omega,by omega,by omega,by omega⟩
 have hSp:=p4 a0 a1 1 hg0 (by omega)
 have hIm:=p3 a0 a1 1 hg0 (by omega)
 have hsm:=(p5 hg0 (n:=(min a1 60).toNat)).s
 obtain⟨W,hW⟩:∃ W,W=ps a0 a1:=⟨_,rfl⟩
 rw [show p2 (min a1 60).toNat a0=ps a0 a1 from rfl] at hsm
 rw [←hW] at hSp hIm hsm
 clear hW
 have q0:=hsm.a.own
 have q1:=hsm.a.far
 have q2:=hsm.a.subs
 have q3:=hsm.a.halfs
 have q4:=hsm.a.list
 have q5:=hsm.a.done
 have q6:=hsm.a.over
 have q7:=hsm.b.own
 have q8:=hsm.b.far
 have q9:=hsm.b.subs
 have q10:=hsm.b.halfs
 have q11:=hsm.b.list
 have q12:=hsm.b.done
 have q13:=hsm.b.over
 have q14:=hsm.bag
 have q15:=hsm.past
 have q16:=hsm.keys
 have q17:=hsm.tags
 have q18:=hsm.nums
 have q19:=hsm.ansA
 have q20:=hsm.ansB
 have hcnt:=WorldD.cnt_le W q0 q1 q2 q3 q4 q5 q6 q7 q8 q9 q10 q11 q12 q13 q14 q15 q16 q17 q18 q19 q20
 refine qK (cN a0 l0_0 l0_1 l0_2 l0_3 l0_4 l0_5 l0_6 l0_7 l0_8 l0_9 l0_10 l0_11 l0_12 l0_13 l0_14 l0_15 l0_16 l0_17 l0_18 l0_19 l0_20) (qI 0 21) ?_
 refine qK (hSp) (qI 22 21) ?_
 refine qK (cN a0 l0_0 l0_1 l0_2 l0_3 l0_4 l0_5 l0_6 l0_7 l0_8 l0_9 l0_10 l0_11 l0_12 l0_13 l0_14 l0_15 l0_16 l0_17 l0_18 l0_19 l0_20) (qI 0 21) ?_
 refine qK (hIm) (qI 65 21) ?_
 refine qK (h_ W (by omega) (by omega) (by omega) (by omega) (by omega) (by omega) (by omega) (by omega) (by omega) (by omega) (by omega) (by omega) (by omega) (by omega) (by omega) (by omega) (by omega) (by omega) (by omega) (by omega) (by omega)) (qI 87 21++qI 43 21) ?_
 refine qD [0,1,2,3,4] ?_
 refine az (cN a0 l0_0 l0_1 l0_2 l0_3 l0_4 l0_5 l0_6 l0_7 l0_8 l0_9 l0_10 l0_11 l0_12 l0_13 l0_14 l0_15 l0_16 l0_17 l0_18 l0_19 l0_20) (qI 0 21) ?_
 refine az (h_ a0 (by omega) (by omega) (by omega) (by omega) (by omega) (by omega) (by omega) (by omega) (by omega) (by omega) (by omega) (by omega) (by omega) (by omega) (by omega) (by omega) (by omega) (by omega) (by omega) (by omega) (by omega)) (qI 65 21++qI 109 21) ?_
 refine qG ?_
 refine qK (o7 a0 1 l0_0 l0_1 l0_2 l0_3 l0_4 l0_5 l0_6 l0_7 l0_8 l0_9 l0_10 l0_11 l0_12 l0_13 l0_14 l0_15 l0_16 l0_17 l0_18 l0_19 l0_20 (by omega) (by omega)) (qI 65 21) ?_
 refine qK (h_ W (by omega) (by omega) (by omega) (by omega) (by omega) (by omega) (by omega) (by omega) (by omega) (by omega) (by omega) (by omega) (by omega) (by omega) (by omega) (by omega) (by omega) (by omega) (by omega) (by omega) (by omega)) (qI 87 21++qI 43 21) ?_
 refine qK (pf W 1 q0 q1 q2 q3 q4 q5 q6 q7 q8 q9 q10 q11 q12 q13 q14 q15 q16 q17 q18 q19 q20 (by omega) (by omega)) (qI 87 21) ?_
 refine qK (j3 W 1 q0 q1 q2 q3 q4 q5 q6 q7 q8 q9 q10 q11 q12 q13 q14 q15 q16 q17 q18 q19 q20 (by omega) (by omega)) (qI 87 21) ?_
 refine qK (cN a0 l0_0 l0_1 l0_2 l0_3 l0_4 l0_5 l0_6 l0_7 l0_8 l0_9 l0_10 l0_11 l0_12 l0_13 l0_14 l0_15 l0_16 l0_17 l0_18 l0_19 l0_20) (qI 0 21) ?_
 refine qK (hIm) (qI 130 21) ?_
 refine qK (h_ W (by omega) (by omega) (by omega) (by omega) (by omega) (by omega) (by omega) (by omega) (by omega) (by omega) (by omega) (by omega) (by omega) (by omega) (by omega) (by omega) (by omega) (by omega) (by omega) (by omega) (by omega)) (qI 151 21++qI 43 21) ?_
 refine qK (j3 W 1 q0 q1 q2 q3 q4 q5 q6 q7 q8 q9 q10 q11 q12 q13 q14 q15 q16 q17 q18 q19 q20 (by omega) (by omega)) (qI 87 21) ?_
 exact cc (qI 0 21)
end
section
open Go.RowKit
end
section
open Go
end
section
open Go
end
section
open Go
def f4 (P:Program) (g:Nat):List Nat:=(P.funcs[g]?).elim [] P.leadsTo
def g5 (P:Program) (seen:List Nat):Nat→Nat
 |0=>0
 |n+1=>g5 P seen n+(if seen.contains n then 0 else (f4 P n).length+1)
theorem hH {P:Program} {seen:List Nat} {f:Nat}:∀ {n:Nat},n≤f→g5 P (f::seen) n=g5 P seen n
 |0,_=>rfl
 |n+1,h=>by
  rw [g5,g5,hH (n:=n) (by omega)]
  have:(f::seen).contains n=seen.contains n:=by
   rw [List.contains_cons]
   have:(n == f)=false:=by simp;omega
   rw [this,Bool.false_or]
  rw [this]
theorem hO {P:Program} {seen:List Nat} {f:Nat} (hs:seen.contains f=false):∀ {n:Nat},f < n→g5 P (f::seen) n+((f4 P f).length+1)=g5 P seen n
 |0,h=>absurd h (Nat.not_lt_zero _)
 |n+1,h=>by
  rw [g5,g5]
  by_cases hf:f=n
  ·subst hf
   rw [hH (Nat.le_refl _),hs,List.contains_cons]
   simp
  have:=hO (P:=P) hs (n:=n) (by omega)
  have e:(f::seen).contains n=seen.contains n:=by
   rw [List.contains_cons]
   have:(n == f)=false:=by simp;omega
   rw [this,Bool.false_or]
  rw [e]
  omega
theorem a6 {P:Program}:∀ (n:Nat) (todo seen:List FuncId),todo.length+g5 P seen P.funcs.size≤n→(∀ s∈seen,∀ h∈f4 P s,h∈seen∨h∈todo)→
  (∀ x,x∈todo∨x∈seen→x∈P.closureVia n todo seen)∧∀ x∈P.closureVia n todo seen,∀ h∈f4 P x,h∈P.closureVia n todo seen
 |0,todo,seen,hn,hi=>by
  have:todo=[]:=List.length_eq_zero_iff.1 (by omega)
  subst this
  unfold Program.closureVia
  refine⟨fun x hx=>List.mem_reverse.2 (hx.elim (fun h=>by cases h) id),fun x hx h hh=>?_⟩
  exact List.mem_reverse.2 ((hi x (List.mem_reverse.1 hx) h hh).elim id fun h=>by cases h)
 |n+1,[],seen,hn,hi=>by
  unfold Program.closureVia
  refine⟨fun x hx=>List.mem_reverse.2 (hx.elim (fun h=>by cases h) id),fun x hx h hh=>?_⟩
  exact List.mem_reverse.2 ((hi x (List.mem_reverse.1 hx) h hh).elim id fun h=>by cases h)
 |n+1,f::todo,seen,hn,hi=>by
  unfold Program.closureVia
  simp only [List.length_cons] at hn
  by_cases hf:seen.contains f=true
  ·rw [if_pos hf]
   have hfm:f∈seen:=List.contains_iff_mem.1 hf
   have ih:=a6 n todo seen (by omega) fun s hs h hh=>(hi s hs h hh).elim .inl fun hm=>by
    rcases List.mem_cons.1 hm with rfl|hm
    ·exact .inl hfm
    exact .inr hm
   refine⟨fun x hx=>ih.1 x ?_,ih.2⟩
   rcases hx with hx|hx
   ·rcases List.mem_cons.1 hx with rfl|hx
    ·exact .inr hfm
    exact .inl hx
   exact .inr hx
  rw [if_neg hf]
  have hff:seen.contains f=false:=by simpa using hf
  have hlen:((P.funcs[f]?).elim [] P.leadsTo++todo).length+g5 P (f::seen) P.funcs.size≤n:=by
   rw [List.length_append]
   by_cases hsz:f < P.funcs.size
   ·have:=hO (P:=P) hff hsz
    show (f4 P f).length+todo.length+_≤n
    omega
   rw [hH (Nat.le_of_not_lt hsz)]
   have:P.funcs[f]? =none:=Array.getElem?_eq_none (Nat.le_of_not_lt hsz)
   rw [this]
   simp only [Option.elim,List.length_nil]
   omega
  have ih:=a6 n _ (f::seen) hlen fun s hs h hh=>by
   rcases List.mem_cons.1 hs with rfl|hs
   ·exact .inr (List.mem_append_left _ hh)
   rcases hi s hs h hh with hm|hm
   ·exact .inl (List.mem_cons_of_mem _ hm)
   rcases List.mem_cons.1 hm with rfl|hm
   ·exact .inl (List.mem_cons_self ..)
   exact .inr (List.mem_append_right _ hm)
  refine⟨fun x hx=>ih.1 x ?_,ih.2⟩
  rcases hx with hx|hx
  ·rcases List.mem_cons.1 hx with rfl|hx
   ·exact .inr (List.mem_cons_self ..)
   exact .inl (List.mem_append_right _ hx)
  exact .inr (List.mem_cons_of_mem _ hx)
theorem hP (P:Program):∀ n,n≤P.funcs.size→g5 P [] n=((P.funcs.toList.take n).map fun g=>(P.leadsTo g).length+1).sum
 |0,_=>by simp [g5]
 |n+1,h=>by
  have hn:n < P.funcs.toList.length:=by
   show n < P.funcs.size
   exact h
  rw [g5,hP P n (by omega),List.take_succ_eq_append_getElem hn,List.map_append,List.sum_append]
  have e:f4 P n=P.leadsTo P.funcs.toList[n]:=by
   rw [f4,Array.getElem?_eq_getElem (by simpa using hn)]
   simp
  rw [e]
  simp
theorem hK {P:Program} {f:FuncId}:f∈P.closure f∧∀ x∈P.closure f,∀ h∈f4 P x,h∈P.closure f:=by
 have hp:=hP P P.funcs.size (Nat.le_refl _)
 rw [List.take_of_length_le (by simp)] at hp
 have:=a6 (P:=P) (1+(P.funcs.toList.map fun g=>(P.leadsTo g).length+1).sum) [f] [] (by simp only [List.length_singleton];omega) (fun s hs=>by cases hs)
 exact⟨this.1 f (.inl (List.mem_singleton.2 rfl)),this.2⟩
def g6 (P:Program) (lo hi:Nat) (g:Nat):Bool:=
 match P.funcs[g]? with
 |none=>true
 |some fn=>((P.leadsTo fn).all fun h=>Nat.ble lo h && Nat.blt h hi) && (!(fn.ours || fn.body.isNone || fn.name == "runtime.NumGoroutine") && (match fn.body with|some c=>c.globalsNamed.isEmpty|none=>false))
theorem hS {P:Program} {lo hi:Nat} (h:∀ g,lo≤g∧g < hi→g6 P lo hi g=true) (f u:FuncId) (hf:lo≤f∧f < hi) (hu:u∈P.closure f) (hv:((P.funcs[u]?).any fun fn=>match fn.body with|some c=>c.unfollowed|none=>entryCalls fn)=true):
  P.inPlace f=[]∧P.unfollowed f=true∧P.recurses f=true∧P.varsNamed f=[]:=by
 have hin:∀ x∈P.closure f,lo≤x∧x < hi:=o3 (S:=fun x=>lo≤x∧x < hi) (fun a ha b hb=>by
  have hg:=h a ha
  unfold g6 at hg
  cases hq:P.funcs[a]? with
  |none=>rw [hq] at hb;simp at hb
  |some fn=>
   rw [hq] at hg hb
   simp only [Bool.and_eq_true,List.all_eq_true,Nat.blt_eq,Nat.ble_eq] at hg
   exact hg.1 b hb) hf
 have hun:P.unfollowed f=true:=by
  unfold Program.unfollowed
  rw [List.any_eq_true]
  exact⟨u,hu,hv⟩
 refine⟨?_,hun,by unfold Program.recurses;rw [hun];rfl,?_⟩
 ·unfold Program.inPlace
  rw [List.filterMap_eq_nil_iff]
  intro g hgc
  have hg:=h g (hin g hgc)
  unfold g6 at hg
  cases hq:P.funcs[g]? with
  |none=>rfl
  |some fn=>
   rw [hq] at hg
   simp only [Bool.and_eq_true,Bool.not_eq_true'] at hg
   simp only [Option.bind_some]
   rw [hg.2.1]
   rfl
 unfold Program.varsNamed
 have e1:((P.closure f).flatMap fun g=>((P.funcs[g]?).bind (·.body)).elim [] Code.globalsNamed)=[]:=by
  rw [List.flatMap_eq_nil_iff]
  intro g hgc
  have hg:=h g (hin g hgc)
  unfold g6 at hg
  cases hq:P.funcs[g]? with
  |none=>rfl
  |some fn=>
   rw [hq] at hg
   simp only [Bool.and_eq_true] at hg
   simp only [Option.bind_some]
   cases hb:fn.body with
   |none=>rfl
   |some c=>rw [hb] at hg;simp at hg⊢;exact hg.2.2
 have e2:((P.closure f).filterMap fun g=>(P.funcs[g]?).bind fun fn=>if fn.body.isNone then entryReads.lookup fn.name else none)=[]:=by
  rw [List.filterMap_eq_nil_iff]
  intro g hgc
  have hg:=h g (hin g hgc)
  unfold g6 at hg
  cases hq:P.funcs[g]? with
  |none=>rfl
  |some fn=>
   rw [hq] at hg
   simp only [Bool.and_eq_true] at hg
   simp only [Option.bind_some]
   cases hb:fn.body with
   |none=>rw [hb] at hg;simp at hg
   |some c=>rfl
 rw [e1,e2]
 rfl
theorem kb {P:Program} {f:FuncId} {fn:Func} {s:ChangeSpec} {c:OpenClaim} (g:P.inPlace f=[]∧P.unfollowed f=true∧P.recurses f=true∧P.varsNamed f=[]) (c1:c.inPlace=[]) (c2:c.unfollowed=true) (c3:c.recurses=true) (c4:c.named=[])
  (m1:P.mayEnter=true) (m2:P.liftsFinal=false) (m3:P.make=some .cut) (d2:c.lifted=false) (d3:c.make=.cut) (h:uQ P f fn s c=true):joinedFacts P f fn s c=true:=by
 obtain⟨g1,g2,g3,g4⟩:=g
 unfold uQ at h
 unfold joinedFacts
 simp only [Bool.and_eq_true] at h⊢
 obtain⟨⟨⟨⟨⟨⟨⟨⟨⟨⟨⟨⟨⟨⟨⟨⟨⟨⟨⟨⟨⟨⟨⟨⟨k1,k2⟩,k3⟩,k4⟩,k5⟩,k6⟩,k7⟩,k8⟩,k9⟩,k14⟩,k15⟩,k16⟩,k17⟩,k17b⟩,k18⟩,k19⟩,k20⟩,k21⟩,k22⟩,k23⟩,k23b⟩,k25⟩,k26⟩,k27⟩,k28⟩:=h
 refine⟨⟨⟨⟨⟨⟨⟨⟨⟨⟨⟨⟨⟨⟨⟨⟨⟨⟨⟨⟨⟨⟨⟨⟨⟨⟨⟨⟨⟨⟨⟨k1,k2⟩,k3⟩,k4⟩,k5⟩,k6⟩,k7⟩,k8⟩,k9⟩,?_⟩,?_⟩,?_⟩,?_⟩,k14⟩,k15⟩,k16⟩,k17⟩,k17b⟩,k18⟩,k19⟩,k20⟩,k21⟩,k22⟩,k23⟩,k23b⟩,m1⟩,?_⟩,?_⟩,k25⟩,k26⟩,k27⟩,k28⟩
 ·rw [c1,g1];rfl
 ·rw [c2,g2];rfl
 ·rw [c3,g3];rfl
 ·rw [c4,g4];rfl
 ·rw [d2,m2];rfl
 rw [d3,m3];exact beq_self_eq_true _
end
section
open Go
theorem oa:(List.range' 3 16).all (g6 Tryz.prog 3 336)=true:=by kernel_rfl
theorem ob:(List.range' 19 16).all (g6 Tryz.prog 3 336)=true:=by kernel_rfl
theorem oi:(List.range' 35 16).all (g6 Tryz.prog 3 336)=true:=by kernel_rfl
theorem oj:(List.range' 51 16).all (g6 Tryz.prog 3 336)=true:=by kernel_rfl
theorem ok:(List.range' 67 16).all (g6 Tryz.prog 3 336)=true:=by kernel_rfl
theorem op:(List.range' 83 16).all (g6 Tryz.prog 3 336)=true:=by kernel_rfl
theorem pa:(List.range' 99 16).all (g6 Tryz.prog 3 336)=true:=by kernel_rfl
theorem pb:(List.range' 115 16).all (g6 Tryz.prog 3 336)=true:=by kernel_rfl
theorem pl:(List.range' 131 16).all (g6 Tryz.prog 3 336)=true:=by kernel_rfl
theorem pr:(List.range' 147 16).all (g6 Tryz.prog 3 336)=true:=by kernel_rfl
theorem lb:(List.range' 163 16).all (g6 Tryz.prog 3 336)=true:=by kernel_rfl
theorem lp:(List.range' 179 16).all (g6 Tryz.prog 3 336)=true:=by kernel_rfl
theorem lt:(List.range' 195 16).all (g6 Tryz.prog 3 336)=true:=by kernel_rfl
theorem mk:(List.range' 211 16).all (g6 Tryz.prog 3 336)=true:=by kernel_rfl
theorem mp:(List.range' 227 16).all (g6 Tryz.prog 3 336)=true:=by kernel_rfl
theorem mx:(List.range' 243 16).all (g6 Tryz.prog 3 336)=true:=by kernel_rfl
theorem np:(List.range' 259 16).all (g6 Tryz.prog 3 336)=true:=by kernel_rfl
theorem nt:(List.range' 275 16).all (g6 Tryz.prog 3 336)=true:=by kernel_rfl
theorem nw:(List.range' 291 16).all (g6 Tryz.prog 3 336)=true:=by kernel_rfl
theorem n0:(List.range' 307 16).all (g6 Tryz.prog 3 336)=true:=by kernel_rfl
theorem n4:(List.range' 323 13).all (g6 Tryz.prog 3 336)=true:=by kernel_rfl
theorem kn (g:Nat) (h:3≤g∧g < 336):g6 Tryz.prog 3 336 g=true:=by
 rcases (by omega:(3≤g∧g < 19)∨(19≤g∧g < 35)∨(35≤g∧g < 51)∨(51≤g∧g < 67)∨(67≤g∧g < 83)∨(83≤g∧g < 99)∨(99≤g∧g < 115)∨(115≤g∧g < 131)∨(131≤g∧g < 147)∨(147≤g∧g < 163)∨(163≤g∧g < 179)∨(179≤g∧g < 195)∨(195≤g∧g < 211)∨(211≤g∧g < 227)∨(227≤g∧g < 243)∨(243≤g∧g < 259)∨(259≤g∧g < 275)∨(275≤g∧g < 291)∨(291≤g∧g < 307)∨(307≤g∧g < 323)∨(323≤g∧g < 336)) with h|h|h|h|h|h|h|h|h|h|h|h|h|h|h|h|h|h|h|h|h
 ·exact List.all_eq_true.1 oa g (List.mem_range'_1.2 h)
 ·exact List.all_eq_true.1 ob g (List.mem_range'_1.2 h)
 ·exact List.all_eq_true.1 oi g (List.mem_range'_1.2 h)
 ·exact List.all_eq_true.1 oj g (List.mem_range'_1.2 h)
 ·exact List.all_eq_true.1 ok g (List.mem_range'_1.2 h)
 ·exact List.all_eq_true.1 op g (List.mem_range'_1.2 h)
 ·exact List.all_eq_true.1 pa g (List.mem_range'_1.2 h)
 ·exact List.all_eq_true.1 pb g (List.mem_range'_1.2 h)
 ·exact List.all_eq_true.1 pl g (List.mem_range'_1.2 h)
 ·exact List.all_eq_true.1 pr g (List.mem_range'_1.2 h)
 ·exact List.all_eq_true.1 lb g (List.mem_range'_1.2 h)
 ·exact List.all_eq_true.1 lp g (List.mem_range'_1.2 h)
 ·exact List.all_eq_true.1 lt g (List.mem_range'_1.2 h)
 ·exact List.all_eq_true.1 mk g (List.mem_range'_1.2 h)
 ·exact List.all_eq_true.1 mp g (List.mem_range'_1.2 h)
 ·exact List.all_eq_true.1 mx g (List.mem_range'_1.2 h)
 ·exact List.all_eq_true.1 np g (List.mem_range'_1.2 h)
 ·exact List.all_eq_true.1 nt g (List.mem_range'_1.2 h)
 ·exact List.all_eq_true.1 nw g (List.mem_range'_1.2 h)
 ·exact List.all_eq_true.1 n0 g (List.mem_range'_1.2 h)
 exact List.all_eq_true.1 n4 g (List.mem_range'_1.2 h)
theorem la {f x h:Nat} (hx:x∈Tryz.prog.closure f) (hl:(f4 Tryz.prog x).contains h=true):h∈Tryz.prog.closure f:=
 hK.2 x hx h (List.contains_iff_mem.1 hl)
end
end Go.Proofs.YtbgakfbnkkfbkaaGreat
