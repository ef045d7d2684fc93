/-
  Texts merged for this claim by shake.py: what its proof needs.
-/
import Derived.Test.YtjghbknhneffjaaGreatZFnBaseL
import Derived.Test.YtjghbknhneffjaaGreatZFnBaseM
import Derived.Test.YtjghbknhneffjaaGreatZFnBaseN
import Derived.Test.YtjghbknhneffjaaGreatZFnB2A
set_option maxHeartbeats 16000000
set_option maxRecDepth 100000
set_option linter.unusedVariables false
set_option linter.unusedSimpArgs false
namespace Go.Proofs.YtjghbknhneffjaaGreat
section
open Go.RowKit
theorem kn (l:List AddrD) (r:Int) (hl:l.length<=1048576):aP 210 [.sc (.sl 0 0 l.length),.sc (.int .i64 r)] [some ⟨l.map AddrD.cs,4,103,false,true⟩]
  (.tu [.sc (.sl 1 0 (be l r).1.length),.sc (.bo (be l r).2)]) [some ⟨l.map AddrD.cs,4,103,false,true⟩,some ⟨(be l r).1.map AddrD.cs,4,103,true,true⟩]:=by
 have hA:=b6 l r hl
 have hbd:=fQ l r
 have hf:= @tW l r
 have ht:=fun n=> @mG l r n
 generalize be l r=R at*
 refine qE Tryz.func210 Tryz.ntmps210 Tryz.results210 fun E hE=>?_
 refine qK (hA) (qI 0 1) ?_
 rcases hbd with hk|⟨hb0,hb1⟩
 ·rw [hf hk,hk]
  refine qX ?_
  refine qK (gX l hl) (qI 0 1) ?_
  exact qF (qI 0 2)
 obtain⟨n,hk⟩:=Int.eq_ofNat_of_zero_le hb0
 rw [ht _ hk,hk]
 refine qX ?_
 refine qD [0,1,2,4,5,6,7,3,8,9,10] ?_
 have hlt:(l.take n).length=n:=by simp;omega
 have hlt2:(List.take n (List.map AddrD.cs l)).length=n:=by simp;omega
 have hC:=gX (l.take n) (by simp;omega)
 rw [List.length_take,show min n l.length=n by omega] at hC
 refine aQ (hC) [some (0,some 0)] ?_
 refine qG ?_
 refine qJ (qI 0 1++qI 2 1) ?_
 exact oP (by omega)
theorem eo (l:List AddrD) (a:AddrD) (hl:l.length<=1048576):aP 209 [.sc (.sl 0 0 l.length),.ag a.cs] [some ⟨l.map AddrD.cs,4,103,false,true⟩]
  (.tu [.sc (.sl 1 0 (aJ l a).1.length),.sc (.bo (aJ l a).2)]) [some ⟨l.map AddrD.cs,4,103,false,true⟩,some ⟨(aJ l a).1.map AddrD.cs,4,103,true,true⟩]:=by
 have hA:=b6 l a.id (by omega)
 have hbd:=fQ l a.id
 have hO:=da (bO l a) (by have:=dR l a;omega)
 have hll:=dR l a
 have hLt:=fun k=> @tU l a k
 have hLf:=fun k=> @tV l a k
 have ht:=wH (l:=l) (a:=a)
 have hf:=oJ (l:=l) (a:=a)
 have hbig:=rH (l:=l) (a:=a)
 generalize bO l a=L at*
 generalize aJ l a=R at*
 refine qE Tryz.func209 Tryz.ntmps209 Tryz.results209 fun E hE=>?_
 refine qK (gX l (by omega)) (qI 0 1) ?_
 refine qK (hA) (qI 0 1) ?_
 rcases hbd with hat|⟨hb0,hb1⟩
 ·rw [hat]
  refine qX ?_
  refine jx 1 hE (fun s (k:Nat)=>s.at (qU [1,1,8,28]) [(7,.sc (.int .i64 (k:Nat)))] (s.hp)) (fun (k:Nat)=>k<=l.length/\k+((l.drop k).takeWhile (fun b=>decide (b.id < a.id))).length=wG l a.id) (fun (k:Nat)=>l.length - k) 0 (qI 0 3) (⟨Nat.zero_le _,by simp [wG]⟩) fun k hk N hN=>?_
  obtain⟨hk1,hk2⟩:=hk
  refine qR ?_
  refine qD [0,1,2,3,4,5,6,7,8,9,10,11,12,13] ?_
  refine qB (fun h=>?_) fun h=>?_
  ·refine⟨qC,ac 400 ?_⟩
   rw [vw h] at hk2
   refine qX ?_
   refine qB (fun h2=>?_) fun h2=>?_
   ·rw [if_pos (by simp [h2])] at hk2
    exact qN hN (k+1) (qI 0 3) (by (try dsimp only);exact⟨by omega,by omega⟩)
   rw [if_neg (by simp;omega)] at hk2
   have hq:=hLf k hat (by omega)
   have e1:(l.take k).map AddrD.cs++[a.cs]++((l.map AddrD.cs).drop k).take (l.length - k)=L.map AddrD.cs:=by rw [hq];exact (oO rfl hk1).2
   have e2:k+1+(l.length - k)=L.length:=by rw [hq];simp;omega
   have hlt:(l.take k).length=k:=by simp;omega
   have hlt2:((l.map AddrD.cs).take k).length=k:=by simp;omega
   have hC:=gX (l.take k) (by omega)
   rw [hlt] at hC
   simp only [AddrD.cs] at e1
   refine aO [(3,5),(3,9),(5,9),(6,9)] [[0,1,2,4,7,8,3,5,6,9,10,11],[0,1,2,4,7,8,3,5,9,6,10,11],[0,1,2,4,7,8,3,9,5,6,10,11],[0,1,2,4,7,8,9,3,5,6,10,11],[0,1,2,4,7,8,5,3,6,9,10,11],[0,1,2,4,7,8,5,3,9,6,10,11],[0,1,2,4,7,8,5,9,3,6,10,11],[0,1,2,4,7,8,9,5,3,6,10,11]] (by kernel_rfl) (qC) (by kernel_rfl) ?_
   simp only [bm]
   refine⟨aa 400 ?_,aa 400 ?_,aa 400 ?_,aa 400 ?_,aa 400 ?_,aa 400 ?_,aa 400 ?_,aa 400 ?_⟩
   all_goals simp (disch:=omega) only [go_sem,seval]
   all_goals
    refine aQ (hC) [some (0,some 0)] ?_
    refine⟨qC,ac 400 ?_⟩
    try simp (disch:=omega) only [go_sem,seval,e1,e2]
    refine qK (hO) (qI 6 1) ?_
    refine qB (fun h9=>?_) fun h9=>?_
    ·rw [hf h9]
     refine qX ?_
     refine qK (gX l (by omega)) (qI 0 1) ?_
     exact qF (qI 0 1++qI 7 1)
    rw [ht h9]
    refine qX ?_
    exact qF (qI 0 1++qI 6 1)
  refine⟨qC,ac 400 ?_⟩
  rw [yS (by omega)] at hk2
  refine qX ?_
  have hq:=hLf k hat (by omega)
  have e1:(l.take k).map AddrD.cs++[a.cs]++((l.map AddrD.cs).drop k).take (l.length - k)=L.map AddrD.cs:=by rw [hq];exact (oO rfl hk1).2
  have e2:k+1+(l.length - k)=L.length:=by rw [hq];simp;omega
  have hlt:(l.take k).length=k:=by simp;omega
  have hlt2:((l.map AddrD.cs).take k).length=k:=by simp;omega
  have hC:=gX (l.take k) (by omega)
  rw [hlt] at hC
  simp only [AddrD.cs] at e1
  refine aO [(3,5),(3,9),(5,9),(6,9)] [[0,1,2,4,7,8,3,5,6,9,10,11],[0,1,2,4,7,8,3,5,9,6,10,11],[0,1,2,4,7,8,3,9,5,6,10,11],[0,1,2,4,7,8,9,3,5,6,10,11],[0,1,2,4,7,8,5,3,6,9,10,11],[0,1,2,4,7,8,5,3,9,6,10,11],[0,1,2,4,7,8,5,9,3,6,10,11],[0,1,2,4,7,8,9,5,3,6,10,11]] (by kernel_rfl) (qC) (by kernel_rfl) ?_
  simp only [bm]
  refine⟨aa 400 ?_,aa 400 ?_,aa 400 ?_,aa 400 ?_,aa 400 ?_,aa 400 ?_,aa 400 ?_,aa 400 ?_⟩
  all_goals simp (disch:=omega) only [go_sem,seval]
  all_goals
   refine aQ (hC) [some (0,some 0)] ?_
   refine⟨qC,ac 400 ?_⟩
   try simp (disch:=omega) only [go_sem,seval,e1,e2]
   refine qK (hO) (qI 6 1) ?_
   refine qB (fun h9=>?_) fun h9=>?_
   ·rw [hf h9]
    refine qX ?_
    refine qK (gX l (by omega)) (qI 0 1) ?_
    exact qF (qI 0 1++qI 7 1)
   rw [ht h9]
   refine qX ?_
   exact qF (qI 0 1++qI 6 1)
 obtain⟨n,hk⟩:=Int.eq_ofNat_of_zero_le hb0
 have hn:n < l.length:=by omega
 have e:=yO l n a
 simp only [AddrD.cs] at e
 rw [hLt n hk] at hO ht hf
 rw [List.length_set] at hO
 rw [hk]
 try simp (disch:=omega) only [go_sem,seval,e]
 refine qK (hO) (qI 2 1) ?_
 refine qB (fun h1=>?_) fun h1=>?_
 ·rw [hf h1]
  refine qX ?_
  refine qK (gX l (by omega)) (qI 0 1) ?_
  exact qF (qI 0 1++qI 3 1)
 rw [ht h1]
 try simp only [List.length_set]
 refine qX ?_
 exact qF (qI 0 1++qI 2 1)
end
end Go.Proofs.YtjghbknhneffjaaGreat
