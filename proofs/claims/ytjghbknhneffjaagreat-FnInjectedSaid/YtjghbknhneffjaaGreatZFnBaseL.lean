/-
  Texts merged for this claim by shake.py: what its proof needs.
-/
import Derived.Test.YtjghbknhneffjaaGreatZFnBaseA
import Derived.Test.YtjghbknhneffjaaGreatZFnBaseB
import Derived.Test.YtjghbknhneffjaaGreatZFnBaseC
import Derived.Test.YtjghbknhneffjaaGreatZFnBaseD
import Derived.Test.YtjghbknhneffjaaGreatZFnBaseF
import Derived.Test.YtjghbknhneffjaaGreatZFnBaseJ
import Derived.Test.YtjghbknhneffjaaGreatZFnBaseK
set_option maxHeartbeats 16000000
set_option maxRecDepth 100000
set_option linter.unusedVariables false
set_option linter.unusedSimpArgs false
namespace Go.Proofs.YtjghbknhneffjaaGreat
section
open Go.RowKit
def A3 (W:List UInt8) (n k:Nat):List UInt8:=(W.drop n).take k
theorem zQ (W:List UInt8) (n k j:Nat):(A3 W n k).drop j=A3 W (n+j) (k - j):=by
 rw [A3,A3,List.drop_take,List.drop_drop]
theorem A4 {W:List UInt8} {n k:Nat} (h:n+k<=W.length):(A3 W n k).length=k:=by
 rw [A3,List.length_take,List.length_drop];omega
theorem pn {W t:List UInt8} {n:Nat}:Slice W (n:Int) t↔n+t.length<=W.length/\t=A3 W n t.length:=by
 rw [Slice,Int.toNat_natCast]
 constructor
 ·rintro⟨_,h1,h2⟩;exact⟨by omega,h2⟩
 rintro⟨h1,h2⟩;exact⟨by omega,by omega,h2⟩
theorem xH {W:List UInt8} {n k:Nat} (h:n+k<=W.length):Slice W (n:Int) (A3 W n k):=by
 rw [pn,A4 h];exact⟨h,rfl⟩
theorem Slice.nat {W t:List UInt8} {p:Int} (h:Slice W p t):∃ n k:Nat,p=(n:Int)/\t=A3 W n k/\t.length=k/\n+k<=W.length:=by
 obtain⟨n,rfl⟩:=Int.eq_ofNat_of_zero_le h.1
 obtain⟨h1,h2⟩:=pn.1 h
 exact⟨n,t.length,rfl,h2,rfl,h1⟩
theorem Slice.drop {W t:List UInt8} {p:Int} (h:Slice W p t) {d:Nat} (hd:d<=t.length):Slice W (p+(d:Int)) (t.drop d):=by
 obtain⟨n,k,rfl,h2,h3,h4⟩:=h.nat
 rw [h2,zQ,show (n:Int)+(d:Int)=((n+d:Nat):Int) by omega]
 exact xH (by omega)
theorem InI.next {W R:List UInt8} {p:PiecesD} (h:InI W R p) (F:FineP p):nextOf p=((R.length+p.ready.length:Nat):Int):=by
 rw [F.next,h.read];omega
theorem Start.ans {w:WorldD} (S:Start w):AnsW w:=by
 have h:=S.e
 simp only [startE,Bool.and_eq_true,decide_eq_true_eq] at h
 obtain⟨⟨⟨⟨⟨⟨oa,ob⟩,a1,a2,a3,a4,a5,a6,a7,a8,a9,a10,a11,a12⟩,b1,b2,b3,b4,b5,b6,b7,b8⟩,c1,c2⟩,d1,d2,d3,d4,d5,d6⟩,e1,e2⟩:=h
 have y:∀ e:EndD,e.now=0->e.bucket=⟨1,3,3⟩->e.halfs=[]->e.subs.length<=8->AnsI [] e:=fun e h1 h2 h3 h4=>
  ⟨⟨by omega,by rw [h2],by rw [h2],by rw [h2];decide,by rw [h3];simp,by rw [h3];simp,h4⟩,by simp,fun f hf=>by rw [h2];simp only [cntF,List.filter_nil,List.length_nil];omega,fun f g hf hg=>by simp only [cntF,List.filter_nil,List.length_nil];omega⟩
 exact⟨by rw [S.na];exact y _ a11 b7 b1 (by rw [e1];decide),by rw [S.nb];exact y _ a12 b8 b2 (by rw [e2];decide)⟩
end
end Go.Proofs.YtjghbknhneffjaaGreat
