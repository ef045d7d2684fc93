/-
  Texts merged for this claim by shake.py: what its proof needs.
-/
import Derived.Test.YtjghbknhneffjaaGreatZFnBaseL
import Derived.Test.YtjghbknhneffjaaGreatZFnBaseM
import Derived.Test.YtjghbknhneffjaaGreatZFnBaseN
import Derived.Test.YtjghbknhneffjaaGreatZFnInjectedA
set_option maxHeartbeats 16000000
set_option maxRecDepth 100000
set_option linter.unusedVariables false
set_option linter.unusedSimpArgs false
namespace Go.Proofs.YtjghbknhneffjaaGreat
section
open Go.RowKit
section
variable {β β0':Be} {ρ:Rho} {N:Nat}
end
end
section
end
section
open Go.RowKit
end
section
end
section
open Go.RowKit
end
section
open Go.RowKit
section
variable {P:Program} {β:Be}
end
end
section
open Go.RowKit
theorem dn (e:EndD) (s:SubD):aP 202 [.ag (e.cs 0),.ag s.cs] (e.hp false) (.ag (cb e s).cs) (e.hp false):=by
 refine qE Tryz.func202 Tryz.ntmps202 Tryz.results202 fun E hE=>?_
 refine qD [0,1,2,3,4,5,6,7,8,9,10,11,12,13] ?_
 refine aQ (a9 _ _ _ _) [] ?_
 refine aQ (a0 s.road { ah with kind:=6,tag:=⟨2,e.key,e.peer,s.mine,s.theirs⟩}) [] ?_
 refine qG ?_
 refine qP (qI 0 7) ?_
 first|exact⟨⟩|simp [cb]
theorem a8 (r:RoadD) (n:Int):aP 205 [.ag r.cs,.sc (.int .i64 n)] [] (.sc (.sl 0 0 1)) [some ⟨[(pY r n).cs],19,48,true,true⟩]:=by
 refine qE Tryz.func205 Tryz.ntmps205 Tryz.results205 fun E hE=>?_
 refine qK (a0 r { ah with kind:=7,sgn:=n }) [] ?_
 refine qP (qI 1 1) ?_
 first|exact⟨⟩|simp [pY]
theorem kb (l:List HalfD) (r:RoadD) (hl:l.length<=1048576):aP 204 [.sc (.sl 0 0 l.length),.ag r.cs] [some ⟨l.map HalfD.cs,8,121,false,true⟩]
  (.sc (.sl 1 0 (bz l r).length)) [some ⟨l.map HalfD.cs,8,121,false,true⟩,some ⟨(bz l r).map HalfD.cs,8,121,true,true⟩]:=by
 have hA:=cT l r hl
 have hbd:=ix l r
 have hf:= @tQ l r
 have ht:=fun n=> @tR l r n
 generalize bz l r=R at*
 refine qE Tryz.func204 Tryz.ntmps204 Tryz.results204 fun E hE=>?_
 refine qK (hA) (qI 0 1) ?_
 rcases hbd with hk|⟨hb0,hb1⟩
 ·rw [hf hk,hk]
  refine qX ?_
  refine qK (mz l hl) (qI 0 1) ?_
  exact qF (qI 0 1++qI 2 1)
 obtain⟨n,hk⟩:=Int.eq_ofNat_of_zero_le hb0
 rw [ht _ hk,hk]
 refine qX ?_
 refine qD [0,1,2,4,5,6,7,3,8,9] ?_
 have hlt:(l.take n).length=n:=by simp;omega
 have hlt2:(List.take n (List.map HalfD.cs l)).length=n:=by simp;omega
 have hC:=mz (l.take n) (by simp;omega)
 rw [List.length_take,show min n l.length=n by omega] at hC
 refine aQ (hC) [some (0,some 0)] ?_
 refine qG ?_
 refine qJ (qI 0 1++qI 3 1) ?_
 refine⟨by simp;omega,?_⟩
 simp only [List.map_append,List.map_take,List.map_drop]
 congr 1
 exact List.take_of_length_le (by simp)
theorem o2 {α:Type} {f:α->List Sc} {l:List α} {a:α} {c:List Sc} (hc:f a=c):
  l.length+1+(l.length - l.length)=l.length+1/\l.map f++[c]++((l.map f).drop l.length).take (l.length - l.length)=(l++[a]).map f:=by
 rw [<-hc]
 simp
theorem o1 (l:List Int) (n:Int) (hl:l.length<=1048570):aP 211 [.sc (.sl 0 0 l.length),.sc (.int .i64 n)] [some ⟨l.map aM,1,3,false,true⟩]
  (.sc (.sl 1 0 (gf l n).length)) [some ⟨l.map aM,1,3,false,true⟩,some ⟨(gf l n).map aM,1,3,true,true⟩]:=by
 have ht:=fun k=> @BO l n k
 have hf:=fun k=> @BP l n k
 have he:= @BQ l n
 generalize gf l n=R at*
 refine qE Tryz.func211 Tryz.ntmps211 Tryz.results211 fun E hE=>?_
 refine jx 1 hE (fun s (k:Nat)=>s.at (qU [6,14]) [(5,.sc (.int .i64 (k:Nat)))] (s.hp)) (fun (k:Nat)=>k<=l.length/\k+((l.drop k).takeWhile (fun a=>decide (a < n))).length=gd l n) (fun (k:Nat)=>l.length - k) 0 (qI 0 1) (⟨Nat.zero_le _,by simp [gd]⟩) fun k hk N hN=>?_
 obtain⟨hk1,hk2⟩:=hk
 refine qR ?_
 refine qB (fun h=>?_) fun h=>?_
 ·rw [vw h] at hk2
  refine qX ?_
  refine qB (fun h2=>?_) fun h2=>?_
  ·rw [if_pos (by simp [h2])] at hk2
   exact qN hN (k+1) (qI 0 1) (by (try dsimp only);exact⟨by omega,by omega⟩)
  rw [if_neg (by simp;omega)] at hk2
  refine qX ?_
  refine qB (fun h3=>?_) fun h3=>?_
  ·rw [ht k (by omega) h h3]
   refine qK (iK l (by omega)) (qI 0 1) ?_
   exact qF (qI 0 2)
  rw [hf k (by omega) h h3]
  have hlt:(l.take k).length=k:=by simp;omega
  have hC:=iK (l.take k) (by omega)
  rw [hlt] at hC
  refine aO [(3,5),(3,9),(5,9),(6,9)] [[0,1,2,4,7,8,3,5,6,9,10,11],[0,1,2,4,7,8,3,5,9,6,10,11],[0,1,2,4,7,8,3,9,5,6,10,11],[0,1,2,4,7,8,9,3,5,6,10,11],[0,1,2,4,7,8,5,3,6,9,10,11],[0,1,2,4,7,8,5,3,9,6,10,11],[0,1,2,4,7,8,5,9,3,6,10,11],[0,1,2,4,7,8,9,5,3,6,10,11]] (by kernel_rfl) (qC) (by kernel_rfl) ?_
  simp only [bm]
  refine⟨aa 400 ?_,aa 400 ?_,aa 400 ?_,aa 400 ?_,aa 400 ?_,aa 400 ?_,aa 400 ?_,aa 400 ?_⟩
  all_goals simp (disch:=omega) only [go_sem,seval]
  all_goals
   refine aQ (hC) [some (0,some 0)] ?_
   refine qG ?_
   refine qJ (qI 0 1++qI 4 1) ?_
   exact oO rfl hk1
 rw [yS (by omega)] at hk2
 obtain rfl:k=l.length:=by omega
 rw [he (by omega)]
 refine qX ?_
 refine aO [(3,5),(3,9),(5,9),(6,9)] [[0,1,2,4,7,8,3,5,6,9,10,11],[0,1,2,4,7,8,3,5,9,6,10,11],[0,1,2,4,7,8,3,9,5,6,10,11],[0,1,2,4,7,8,9,3,5,6,10,11],[0,1,2,4,7,8,5,3,6,9,10,11],[0,1,2,4,7,8,5,3,9,6,10,11],[0,1,2,4,7,8,5,9,3,6,10,11],[0,1,2,4,7,8,9,5,3,6,10,11]] (by kernel_rfl) (qC) (by kernel_rfl) ?_
 simp only [bm]
 refine⟨aa 400 ?_,aa 400 ?_,aa 400 ?_,aa 400 ?_,aa 400 ?_,aa 400 ?_,aa 400 ?_,aa 400 ?_⟩
 all_goals simp (disch:=omega) only [go_sem,seval]
 all_goals
  refine aQ (iK l (by omega)) (qI 0 1) ?_
  refine qG ?_
  refine qJ (qI 0 1++qI 4 1) ?_
  exact o2 rfl
theorem kn (l:List AddrD) (r:Int) (hl:l.length<=1048576):aP 210 [.sc (.sl 0 0 l.length),.sc (.int .i64 r)] [some ⟨l.map AddrD.cs,4,103,false,true⟩]
  (.tu [.sc (.sl 1 0 (be l r).1.length),.sc (.bo (be l r).2)]) [some ⟨l.map AddrD.cs,4,103,false,true⟩,some ⟨(be l r).1.map AddrD.cs,4,103,true,true⟩]:=by
 have hA:=b6 l r hl
 have hbd:=fQ l r
 have hf:= @tW l r
 have ht:=fun n=> @mG l r n
 generalize be l r=R at*
 refine qE Tryz.func210 Tryz.ntmps210 Tryz.results210 fun E hE=>?_
 refine qK (hA) (qI 0 1) ?_
 rcases hbd with hk|⟨hb0,hb1⟩
 ·rw [hf hk,hk]
  refine qX ?_
  refine qK (gX l hl) (qI 0 1) ?_
  exact qF (qI 0 2)
 obtain⟨n,hk⟩:=Int.eq_ofNat_of_zero_le hb0
 rw [ht _ hk,hk]
 refine qX ?_
 refine qD [0,1,2,4,5,6,7,3,8,9,10] ?_
 have hlt:(l.take n).length=n:=by simp;omega
 have hlt2:(List.take n (List.map AddrD.cs l)).length=n:=by simp;omega
 have hC:=gX (l.take n) (by simp;omega)
 rw [List.length_take,show min n l.length=n by omega] at hC
 refine aQ (hC) [some (0,some 0)] ?_
 refine qG ?_
 refine qJ (qI 0 1++qI 2 1) ?_
 exact oP (by omega)
theorem eo (l:List AddrD) (a:AddrD) (hl:l.length<=1048576):aP 209 [.sc (.sl 0 0 l.length),.ag a.cs] [some ⟨l.map AddrD.cs,4,103,false,true⟩]
  (.tu [.sc (.sl 1 0 (aJ l a).1.length),.sc (.bo (aJ l a).2)]) [some ⟨l.map AddrD.cs,4,103,false,true⟩,some ⟨(aJ l a).1.map AddrD.cs,4,103,true,true⟩]:=by
 have hA:=b6 l a.id (by omega)
 have hbd:=fQ l a.id
 have hO:=da (bO l a) (by have:=dR l a;omega)
 have hll:=dR l a
 have hLt:=fun k=> @tU l a k
 have hLf:=fun k=> @tV l a k
 have ht:=wH (l:=l) (a:=a)
 have hf:=oJ (l:=l) (a:=a)
 have hbig:=rH (l:=l) (a:=a)
 generalize bO l a=L at*
 generalize aJ l a=R at*
 refine qE Tryz.func209 Tryz.ntmps209 Tryz.results209 fun E hE=>?_
 refine qK (gX l (by omega)) (qI 0 1) ?_
 refine qK (hA) (qI 0 1) ?_
 rcases hbd with hat|⟨hb0,hb1⟩
 ·rw [hat]
  refine qX ?_
  refine jx 1 hE (fun s (k:Nat)=>s.at (qU [1,1,8,28]) [(7,.sc (.int .i64 (k:Nat)))] (s.hp)) (fun (k:Nat)=>k<=l.length/\k+((l.drop k).takeWhile (fun b=>decide (b.id < a.id))).length=wG l a.id) (fun (k:Nat)=>l.length - k) 0 (qI 0 3) (⟨Nat.zero_le _,by simp [wG]⟩) fun k hk N hN=>?_
  obtain⟨hk1,hk2⟩:=hk
  refine qR ?_
  refine qD [0,1,2,3,4,5,6,7,8,9,10,11,12,13] ?_
  refine qB (fun h=>?_) fun h=>?_
  ·refine⟨qC,ac 400 ?_⟩
   rw [vw h] at hk2
   refine qX ?_
   refine qB (fun h2=>?_) fun h2=>?_
   ·rw [if_pos (by simp [h2])] at hk2
    exact qN hN (k+1) (qI 0 3) (by (try dsimp only);exact⟨by omega,by omega⟩)
   rw [if_neg (by simp;omega)] at hk2
   have hq:=hLf k hat (by omega)
   have e1:(l.take k).map AddrD.cs++[a.cs]++((l.map AddrD.cs).drop k).take (l.length - k)=L.map AddrD.cs:=by rw [hq];exact (oO rfl hk1).2
   have e2:k+1+(l.length - k)=L.length:=by rw [hq];simp;omega
   have hlt:(l.take k).length=k:=by simp;omega
   have hlt2:((l.map AddrD.cs).take k).length=k:=by simp;omega
   have hC:=gX (l.take k) (by omega)
   rw [hlt] at hC
   simp only [AddrD.cs] at e1
   refine aO [(3,5),(3,9),(5,9),(6,9)] [[0,1,2,4,7,8,3,5,6,9,10,11],[0,1,2,4,7,8,3,5,9,6,10,11],[0,1,2,4,7,8,3,9,5,6,10,11],[0,1,2,4,7,8,9,3,5,6,10,11],[0,1,2,4,7,8,5,3,6,9,10,11],[0,1,2,4,7,8,5,3,9,6,10,11],[0,1,2,4,7,8,5,9,3,6,10,11],[0,1,2,4,7,8,9,5,3,6,10,11]] (by kernel_rfl) (qC) (by kernel_rfl) ?_
   simp only [bm]
   refine⟨aa 400 ?_,aa 400 ?_,aa 400 ?_,aa 400 ?_,aa 400 ?_,aa 400 ?_,aa 400 ?_,aa 400 ?_⟩
   all_goals simp (disch:=omega) only [go_sem,seval]
   all_goals
    refine aQ (hC) [some (0,some 0)] ?_
    refine⟨qC,ac 400 ?_⟩
    try simp (disch:=omega) only [go_sem,seval,e1,e2]
    refine qK (hO) (qI 6 1) ?_
    refine qB (fun h9=>?_) fun h9=>?_
    ·rw [hf h9]
     refine qX ?_
     refine qK (gX l (by omega)) (qI 0 1) ?_
     exact qF (qI 0 1++qI 7 1)
    rw [ht h9]
    refine qX ?_
    exact qF (qI 0 1++qI 6 1)
  refine⟨qC,ac 400 ?_⟩
  rw [yS (by omega)] at hk2
  refine qX ?_
  have hq:=hLf k hat (by omega)
  have e1:(l.take k).map AddrD.cs++[a.cs]++((l.map AddrD.cs).drop k).take (l.length - k)=L.map AddrD.cs:=by rw [hq];exact (oO rfl hk1).2
  have e2:k+1+(l.length - k)=L.length:=by rw [hq];simp;omega
  have hlt:(l.take k).length=k:=by simp;omega
  have hlt2:((l.map AddrD.cs).take k).length=k:=by simp;omega
  have hC:=gX (l.take k) (by omega)
  rw [hlt] at hC
  simp only [AddrD.cs] at e1
  refine aO [(3,5),(3,9),(5,9),(6,9)] [[0,1,2,4,7,8,3,5,6,9,10,11],[0,1,2,4,7,8,3,5,9,6,10,11],[0,1,2,4,7,8,3,9,5,6,10,11],[0,1,2,4,7,8,9,3,5,6,10,11],[0,1,2,4,7,8,5,3,6,9,10,11],[0,1,2,4,7,8,5,3,9,6,10,11],[0,1,2,4,7,8,5,9,3,6,10,11],[0,1,2,4,7,8,9,5,3,6,10,11]] (by kernel_rfl) (qC) (by kernel_rfl) ?_
  simp only [bm]
  refine⟨aa 400 ?_,aa 400 ?_,aa 400 ?_,aa 400 ?_,aa 400 ?_,aa 400 ?_,aa 400 ?_,aa 400 ?_⟩
  all_goals simp (disch:=omega) only [go_sem,seval]
  all_goals
   refine aQ (hC) [some (0,some 0)] ?_
   refine⟨qC,ac 400 ?_⟩
   try simp (disch:=omega) only [go_sem,seval,e1,e2]
   refine qK (hO) (qI 6 1) ?_
   refine qB (fun h9=>?_) fun h9=>?_
   ·rw [hf h9]
    refine qX ?_
    refine qK (gX l (by omega)) (qI 0 1) ?_
    exact qF (qI 0 1++qI 7 1)
   rw [ht h9]
   refine qX ?_
   exact qF (qI 0 1++qI 6 1)
 obtain⟨n,hk⟩:=Int.eq_ofNat_of_zero_le hb0
 have hn:n < l.length:=by omega
 have e:=yO l n a
 simp only [AddrD.cs] at e
 rw [hLt n hk] at hO ht hf
 rw [List.length_set] at hO
 rw [hk]
 try simp (disch:=omega) only [go_sem,seval,e]
 refine qK (hO) (qI 2 1) ?_
 refine qB (fun h1=>?_) fun h1=>?_
 ·rw [hf h1]
  refine qX ?_
  refine qK (gX l (by omega)) (qI 0 1) ?_
  exact qF (qI 0 1++qI 3 1)
 rw [ht h1]
 try simp only [List.length_set]
 refine qX ?_
 exact qF (qI 0 1++qI 2 1)
theorem ep (e:EndD) (x:LetterD) (hs:Small e):aP 128 [.ag (e.cs 0),.ag x.cs] (e.hp false) (.tu [.ag ((ay e x).1.cs 7),.sc (.sl 14 0 (ay e x).2.length)])
  (e.hp false++((ay e x).1.hp true++[some ⟨(ay e x).2.map LetterD.cs,19,48,true,true⟩])):=by
 have hC:=(qH (jF e))
 have hK:=(qH (ap e))
 have hS:=a7 e (roadOf x) (by have:=hs.subs;omega)
 have hL:=a1 x
 have hbd:=fP e.subs (roadOf x)
 have hf:=Et (e:=e) (x:=x)
 have ht:=fun (n:Nat)=> @Eu e x n
 generalize ay e x=R at*
 refine qE Tryz.func128 Tryz.ntmps128 Tryz.results128 fun E hE=>?_
 refine qK (hC) (qI 0 7) ?_
 refine qD [0,1,2,3,4] ?_
 refine aQ (a5 x) [] ?_
 refine aQ (hS) (qI 0 7) ?_
 refine qG ?_
 rcases hbd with hk|⟨hb0,hb1⟩
 ·rw [hf (Do hk),hk]
  refine qD [0,1,2,3,4,5,6,7,8,9,10,11,12,13,14,15,16,17,18,19,20,21,22,23,24,25,26,27,28,29,30,31,32,33,34,35,36,37,38,39,40,41,42,43] ?_
  refine aQ (hK) (qI 0 7) ?_
  refine qB (fun h1=>?_) fun h1=>?_
  ·refine aQ (hL) [] ?_
   refine qB (fun h2=>?_) fun h2=>?_
   ·refine qB (fun h3=>?_) fun h3=>?_
    ·refine qG ?_
     exact qF (qI 0 7++qI 10 7++qO 1)
    refine qG ?_
    exact qF (qI 0 7++qI 10 7++qO 1)
   refine qG ?_
   exact qF (qI 0 7++qI 10 7++qO 1)
  refine qG ?_
  exact qF (qI 0 7++qI 10 7++qO 1)
 obtain⟨n,hk⟩:=Int.eq_ofNat_of_zero_le hb0
 have hn:n < e.subs.length:=by omega
 have ha:=Dn hk hn
 have hcmp:=TagD.cmp x.tag ⟨1,e.peer,e.key,x.nonce,e.subs[n].mine⟩
 simp only [TagD.cs,go_sem] at hcmp
 rw [hk]
 refine qD [0,1,2,3,4,5,6,7,8,9,10,11,12,13,14,15,16,17,18,19,20,21,22,23,24,25,26,27,28,29,30,31,32,33,34,35,36,37,38,39,40,41,42,43] ?_
 refine aQ (hK) (qI 0 7) ?_
 refine qB (fun h1=>?_) fun h1=>?_
 ·refine aQ (hL) [] ?_
  refine qB (fun h2=>?_) fun h2=>?_
  ·refine qB (fun h3=>?_) fun h3=>?_
   ·refine qB (fun h4=>?_) fun h4=>?_
    ·refine aQ (b8 _ _ _ _) [] ?_
     refine⟨qC,ac 400 ?_⟩
     try simp (disch:=omega) only [go_sem,seval,hcmp]
     refine qB (fun h5=>?_) fun h5=>?_
     ·rw [hf (by rw [ha];simp [h1,h2,h3,h4,h5])]
      refine qX ?_
      exact qF (qI 0 7++qI 10 7++qO 1)
     rw [ht _ (by rw [ha];simp [h1,h2,h3,h4,h5]) hk hn]
     refine qX ?_
     refine aO [(6,7)] [(qU [0,9]),[0,1,2,3,4,5,7,6,8]] (by kernel_rfl) (qC) (by kernel_rfl) ?_
     simp only [bm]
     refine⟨aa 400 ?_,aa 400 ?_⟩
     all_goals simp (disch:=omega) only [go_sem,seval]
     all_goals
      refine aQ (dn e (mD e.subs[n] x)) (qI 0 7) ?_
      refine qG ?_
      refine qP (qI 0 7++qI 10 7++qI 18 1) ?_
      first|exact⟨⟩|simp [List.map_set,SubD.cs,mD,cb,aq,LetterD.cs]
    rw [hf (by rw [ha];simp [h1,h2,h3,h4])]
    refine qG ?_
    exact qF (qI 0 7++qI 10 7++qO 1)
   rw [hf (by rw [ha];simp [h1,h2,h3])]
   refine qG ?_
   exact qF (qI 0 7++qI 10 7++qO 1)
  rw [hf (by rw [ha];simp [h1,h2])]
  refine qG ?_
  exact qF (qI 0 7++qI 10 7++qO 1)
 rw [hf (by rw [ha];simp [h1])]
 refine qG ?_
 exact qF (qI 0 7++qI 10 7++qO 1)
theorem ex (e:EndD) (x:LetterD) (hs:Small e):aP 129 [.ag (e.cs 0),.ag x.cs] (e.hp false) (.tu [.ag ((ao e x).1.cs 7),.sc (.sl 14 0 (ao e x).2.length)])
  (e.hp false++((ao e x).1.hp true++[some ⟨(ao e x).2.map LetterD.cs,19,48,true,true⟩])):=by
 have hC:=(qH (jF e))
 have hK:=(qH (ap e))
 have hS:=a7 e (roadOf x) (by have:=hs.subs;omega)
 have hH:=cT e.halfs (roadOf x) (by have:=hs.halfs;omega)
 have hD:=kb e.halfs (roadOf x) (by have:=hs.halfs;omega)
 have hL:=a1 x
 have hbS:=fP e.subs (roadOf x)
 have hbH:=ix e.halfs (roadOf x)
 have hf:=Ev (e:=e) (x:=x)
 have hf2:=Dp (e:=e) (x:=x)
 have hb:=fun n=> @Ew e x n
 have ha1:=fun i n=> @Dq e x i n
 have ha2:=fun i=> @Dr e x i
 generalize ao e x=R at*
 refine qE Tryz.func129 Tryz.ntmps129 Tryz.results129 fun E hE=>?_
 refine qK (hC) (qI 0 7) ?_
 refine qK (hK) (qI 0 7) ?_
 refine qB (fun h1=>?_) fun h1=>?_
 ·refine qK (hL) [] ?_
  refine qB (fun h2=>?_) fun h2=>?_
  ·refine qB (fun h3=>?_) fun h3=>?_
   ·rw [hf (by simp [mE,h1,h2,h3])]
    refine qX ?_
    exact qF (qI 0 7++qI 10 7++qO 1)
   have hin:mE e x=true:=by simp [mE,h1,h2,h3]
   refine qX ?_
   refine qK (a5 x) [] ?_
   refine qK (hH) (qI 3 1) ?_
   refine qK (hS) (qI 0 7) ?_
   rcases hbS with hk|⟨hk0,hk1⟩
   ·rcases hbH with hi|⟨hi0,hi1⟩
    ·rw [hi]
     rw [hk]
     refine qX ?_
     refine qD [0,1,2,3,4,5,6,7,8,9,10,11,12,13,14,15,16,17,18,19,20,21,22,23,24,25,26,27,28,29] ?_
     refine qG ?_
     rw [hf2 hin (yR hi) (tP hk)]
     refine qD [0,1,2,3,4,5,6,7,8,9,10,11,12,13,14,15,16,17,18,19,20,21,22,23,24,25,26,27,28,29,30,31,32] ?_
     refine qG ?_
     exact qF (qI 0 7++qI 10 7++qO 1)
    obtain⟨i,hi⟩:=Int.eq_ofNat_of_zero_le hi0
    have hil:i < e.halfs.length:=by omega
    have hcmp:=TagD.cmp x.tag ⟨2,e.peer,e.key,e.halfs[i].theirs,e.halfs[i].mine⟩
    simp only [TagD.cs,go_sem] at hcmp
    rw [hi]
    rw [hk]
    refine qX ?_
    refine qD [0,1,2,3,4,5,6,7,8,9,10,11,12,13,14,15,16,17,18,19,20,21,22,23,24,25,26,27,28,29] ?_
    refine qB (fun h4=>?_) fun h4=>?_
    ·refine aQ (a9 _ _ _ _) [] ?_
     refine⟨qC,ac 400 ?_⟩
     try simp (disch:=omega) only [go_sem,seval,hcmp]
     refine qB (fun h5=>?_) fun h5=>?_
     ·have hjA:rE e x=true:=by rw [km hi hil];simp [h4,h5];try omega
      rw [ha2 _ hin hjA hi hil hk]
      refine qX ?_
      refine qK (hD) (qI 3 1) ?_
      refine qD [0,1,2,3,4,5,6] ?_
      refine aQ (a8 (roadOf x) e.halfs[i].give) [] ?_
      refine qG ?_
      refine qP (qI 0 7++qI 10 2++qI 21 2++qI 14 3++qI 23 1) ?_
      first|exact⟨⟩|simp [List.map_set,SubD.cs,jI]
     have hjA':rE e x=false:=by rw [km hi hil];simp [h5]
     refine qX ?_
     rw [hf2 hin (hjA') (tP hk)]
     refine qD [0,1,2,3,4,5,6,7,8,9,10,11,12,13,14,15,16,17,18,19,20,21,22,23,24,25,26,27,28,29,30,31,32] ?_
     refine qG ?_
     exact qF (qI 0 7++qI 10 7++qO 1)
    have hjA':rE e x=false:=by rw [km hi hil];simp;omega
    refine qG ?_
    rw [hf2 hin (hjA') (tP hk)]
    refine qD [0,1,2,3,4,5,6,7,8,9,10,11,12,13,14,15,16,17,18,19,20,21,22,23,24,25,26,27,28,29,30,31,32] ?_
    refine qG ?_
    exact qF (qI 0 7++qI 10 7++qO 1)
   obtain⟨n,hk⟩:=Int.eq_ofNat_of_zero_le hk0
   have hn:n < e.subs.length:=by omega
   have hrd:=tN hk hn
   rcases hbH with hi|⟨hi0,hi1⟩
   ·rw [hi]
    rw [hk]
    refine qX ?_
    refine qD [0,1,2,3,4,5,6,7,8,9,10,11,12,13,14,15,16,17,18,19,20,21,22,23,24,25,26,27,28,29] ?_
    refine qG ?_
    have hcmp2:=TagD.cmp x.tag ⟨2,e.peer,e.key,e.subs[n].theirs,e.subs[n].mine⟩
    simp only [TagD.cs,go_sem] at hcmp2
    have hjA:=yR hi
    refine qD [0,1,2,3,4,5,6,7,8,9,10,11,12,13,14,15,16,17,18,19,20,21,22,23,24,25,26,27,28,29,30,31,32] ?_
    refine qB (fun h6=>?_) fun h6=>?_
    ·refine aQ (a9 _ _ _ _) [] ?_
     refine⟨qC,ac 400 ?_⟩
     try simp (disch:=omega) only [go_sem,seval,hcmp2]
     refine qB (fun h7=>?_) fun h7=>?_
     ·rw [hb _ hin hjA (by rw [gc hk hn];simp [h6,h7]) hk hn]
      refine qX ?_
      refine qD [0,1,2,3,4,5,6,7,8,9,10] ?_
      refine aQ (a8 (roadOf x) e.subs[n].give) [] ?_
      refine qG ?_
      refine qP (qI 0 7++qI 10 7++qI 19 1) ?_
      first|exact⟨⟩|simp
     rw [hf2 hin hjA (by rw [gc hk hn];simp [h6,h7])]
     refine qX ?_
     exact qF (qI 0 7++qI 10 7++qO 1)
    rw [hf2 hin hjA (by rw [gc hk hn];simp [h6])]
    refine qG ?_
    exact qF (qI 0 7++qI 10 7++qO 1)
   obtain⟨i,hi⟩:=Int.eq_ofNat_of_zero_le hi0
   have hil:i < e.halfs.length:=by omega
   have hcmp:=TagD.cmp x.tag ⟨2,e.peer,e.key,e.halfs[i].theirs,e.halfs[i].mine⟩
   simp only [TagD.cs,go_sem] at hcmp
   rw [hi]
   rw [hk]
   refine qX ?_
   refine qD [0,1,2,3,4,5,6,7,8,9,10,11,12,13,14,15,16,17,18,19,20,21,22,23,24,25,26,27,28,29] ?_
   refine qB (fun h4=>?_) fun h4=>?_
   ·refine aQ (a9 _ _ _ _) [] ?_
    refine⟨qC,ac 400 ?_⟩
    try simp (disch:=omega) only [go_sem,seval,hcmp]
    refine qB (fun h5=>?_) fun h5=>?_
    ·have hjA:rE e x=true:=by rw [km hi hil];simp [h4,h5];try omega
     rw [ha1 _ _ hin hjA hi hil hk hn]
     refine qX ?_
     refine qK (hD) (qI 3 1) ?_
     refine qD [0,1,2,3,4,5,6] ?_
     refine aQ (a8 (roadOf x) e.halfs[i].give) [] ?_
     refine qG ?_
     refine qP (qI 0 7++qI 10 2++qI 21 2++qI 14 3++qI 23 1) ?_
     first|exact⟨⟩|simp [List.map_set,SubD.cs,jI]
    have hjA':rE e x=false:=by rw [km hi hil];simp [h5]
    refine qX ?_
    have hcmp2:=TagD.cmp x.tag ⟨2,e.peer,e.key,e.subs[n].theirs,e.subs[n].mine⟩
    simp only [TagD.cs,go_sem] at hcmp2
    have hjA:=hjA'
    refine qD [0,1,2,3,4,5,6,7,8,9,10,11,12,13,14,15,16,17,18,19,20,21,22,23,24,25,26,27,28,29,30,31,32] ?_
    refine qB (fun h6=>?_) fun h6=>?_
    ·refine aQ (a9 _ _ _ _) [] ?_
     refine⟨qC,ac 400 ?_⟩
     try simp (disch:=omega) only [go_sem,seval,hcmp2]
     refine qB (fun h7=>?_) fun h7=>?_
     ·rw [hb _ hin hjA (by rw [gc hk hn];simp [h6,h7]) hk hn]
      refine qX ?_
      refine qD [0,1,2,3,4,5,6,7,8,9,10] ?_
      refine aQ (a8 (roadOf x) e.subs[n].give) [] ?_
      refine qG ?_
      refine qP (qI 0 7++qI 10 7++qI 19 1) ?_
      first|exact⟨⟩|simp
     rw [hf2 hin hjA (by rw [gc hk hn];simp [h6,h7])]
     refine qX ?_
     exact qF (qI 0 7++qI 10 7++qO 1)
    rw [hf2 hin hjA (by rw [gc hk hn];simp [h6])]
    refine qG ?_
    exact qF (qI 0 7++qI 10 7++qO 1)
   have hjA':rE e x=false:=by rw [km hi hil];simp;omega
   refine qG ?_
   have hcmp2:=TagD.cmp x.tag ⟨2,e.peer,e.key,e.subs[n].theirs,e.subs[n].mine⟩
   simp only [TagD.cs,go_sem] at hcmp2
   have hjA:=hjA'
   refine qD [0,1,2,3,4,5,6,7,8,9,10,11,12,13,14,15,16,17,18,19,20,21,22,23,24,25,26,27,28,29,30,31,32] ?_
   refine qB (fun h6=>?_) fun h6=>?_
   ·refine aQ (a9 _ _ _ _) [] ?_
    refine⟨qC,ac 400 ?_⟩
    try simp (disch:=omega) only [go_sem,seval,hcmp2]
    refine qB (fun h7=>?_) fun h7=>?_
    ·rw [hb _ hin hjA (by rw [gc hk hn];simp [h6,h7]) hk hn]
     refine qX ?_
     refine qD [0,1,2,3,4,5,6,7,8,9,10] ?_
     refine aQ (a8 (roadOf x) e.subs[n].give) [] ?_
     refine qG ?_
     refine qP (qI 0 7++qI 10 7++qI 19 1) ?_
     first|exact⟨⟩|simp
    rw [hf2 hin hjA (by rw [gc hk hn];simp [h6,h7])]
    refine qX ?_
    exact qF (qI 0 7++qI 10 7++qO 1)
   rw [hf2 hin hjA (by rw [gc hk hn];simp [h6])]
   refine qG ?_
   exact qF (qI 0 7++qI 10 7++qO 1)
  rw [hf (by simp [mE,h2])]
  refine qX ?_
  exact qF (qI 0 7++qI 10 7++qO 1)
 rw [hf (by simp [mE,h1])]
 refine qX ?_
 exact qF (qI 0 7++qI 10 7++qO 1)
theorem k3 (e:EndD) (x:LetterD) (hs:Small e):aP 131 [.ag (e.cs 0),.ag x.cs] (e.hp false) (.tu [.ag ((bC e x).1.cs 7),.sc (.sl 14 0 (bC e x).2.length)])
  (e.hp false++((bC e x).1.hp true++[some ⟨(bC e x).2.map LetterD.cs,19,48,true,true⟩])):=by
 have hC:=(qH (jF e))
 have hK:=(qH (ap e))
 have hA:=b6 e.far x.id (by have:=hs.far;omega)
 have hH:=ct e.over x.id (by have:=hs.over;omega)
 have hS:=a6 e x (by have:=hs.subs;omega)
 have hL:=a1 x
 have hbs:=rp e x
 have hbA:=fQ e.far x.id
 have hbd:=f9 e x
 have hf:=uc (e:=e) (x:=x)
 have ht:=fun (n:Nat)=> @ud e x n
 have hok:=lH.eq_1 e x
 generalize bC e x=R at*
 refine qE Tryz.func131 Tryz.ntmps131 Tryz.results131 fun E hE=>?_
 refine qK (hC) (qI 0 7) ?_
 refine qK (hS) (qI 0 7) ?_
 have hcmp:=TagD.cmp x.tag ⟨3,e.peer,e.key,x.id,x.addr⟩
 simp only [TagD.cs,go_sem] at hcmp
 rcases hbs with hk|⟨hk0,hk1⟩
 ·rw [hk]
  refine qX ?_
  refine qD [0,1,2,3,4,5,6,7,8,9,10,11,12,13,14,15,16,17,18,19,20,21,22,23,24,25,26,27,28,29,30,31,32] ?_
  refine aQ (hK) (qI 0 7) ?_
  refine qB (fun h1=>?_) fun h1=>?_
  ·refine aQ (hL) [] ?_
   refine qB (fun h2=>?_) fun h2=>?_
   ·rw [hf (by rw [hok];have:=a3 (e:=e) (x:=x) (by rintro⟨_,_,hh⟩;omega);simp;omega)]
    refine qG ?_
    exact qF (qI 0 7++qI 10 7++qO 1)
   rw [hf (by rw [hok];have:=a3 (e:=e) (x:=x) (by rintro⟨_,hh,_⟩;rw [h2] at hh;cases hh);simp;omega)]
   refine qG ?_
   exact qF (qI 0 7++qI 10 7++qO 1)
  rw [hf (by rw [hok];have:=a3 (e:=e) (x:=x) (by rintro⟨hh,_⟩;rw [h1] at hh;cases hh);simp;omega)]
  refine qG ?_
  exact qF (qI 0 7++qI 10 7++qO 1)
 obtain⟨n,hk⟩:=Int.eq_ofNat_of_zero_le hk0
 have hn:n < e.subs.length:=by omega
 rw [hk]
 refine qX ?_
 refine qD [0,1,2,3,4,5,6,7,8,9,10,11,12,13,14,15,16,17,18,19,20,21,22,23,24,25,26,27,28,29,30,31,32] ?_
 refine aQ (hK) (qI 0 7) ?_
 refine qB (fun h1=>?_) fun h1=>?_
 ·refine aQ (hL) [] ?_
  refine qB (fun h2=>?_) fun h2=>?_
  ·have hon:=ds h1 h2 hk
   have hq1:=h1
   refine aQ (el _ _ _ _) [] ?_
   try simp (disch:=omega) only [go_sem,seval,hcmp]
   refine qB (fun h4=>?_) fun h4=>?_
   ·refine aQ (hH) (qI 6 1) ?_
    refine qG ?_
    refine qB (fun h5=>?_) fun h5=>?_
    ·rw [hf (by rw [hok];simp [h5])]
     refine qX ?_
     exact qF (qI 0 7++qI 10 7++qO 1)
    refine qX ?_
    refine qK (hA) (qI 1 1) ?_
    rcases hbA with hi|⟨hi0,hi1⟩
    ·rw [hi]
     refine qX ?_
     have hoth:=t9 hi
     refine qD [0,1,2,3,4,5,6,7,8,9,10,11,12] ?_
     refine qG ?_
     have hP:=eo e.far (jN x) (by have:=iy hq1;omega)
     obtain⟨Q,hQ⟩:∃ Q,Q=aJ e.far (jN x):=⟨_,rfl⟩
     have hQl:Q.1.length<=1048576:=by rw [hQ];have:=iy hq1;have:=dR e.far (jN x);unfold aJ;split<;>dsimp only<;>omega
     rw [<-hQ] at hP
     refine qX ?_
     refine qK (hP) (qI 1 1) ?_
     refine qB (fun h7=>?_) fun h7=>?_
     ·rw [hf (by rw [hok,<-hQ];simp [h7])]
      refine qX ?_
      exact qF (qI 0 7++qI 10 7++qO 1)
     rw [ht _ (by rw [hok,hoth,<-hQ];simp [hon,h4,h5,h7]) hon hn,<-hQ]
     refine qX ?_
     refine aO [(15,16)] [(qU [0,2,3,11,2,1,14,4]),(qU [0,2,3,11,2,1,14,1,16,1,15,1,17,1])] (by kernel_rfl) (qC) (by kernel_rfl) ?_
     simp only [bm]
     refine⟨aa 400 ?_,aa 400 ?_⟩
     all_goals simp (disch:=omega) only [go_sem,seval]
     all_goals
      refine aQ (a5 x) [] ?_
      refine aQ (a0 (roadOf x) { ah with kind:=9,sgn:=e.subs[n].give,id:=x.id,addr:=x.addr }) [] ?_
      refine qG ?_
      refine qP (qI 0 7++qI 10 1++qI 18 1++qI 12 5++qI 19 1) ?_
      first|exact⟨⟩|simp [rO,aq,LetterD.cs]
    obtain⟨i,hi⟩:=Int.eq_ofNat_of_zero_le hi0
    have hil:i < e.far.length:=by omega
    have hoth:=t_ hi hil
    rw [hi]
    refine qX ?_
    refine qD [0,1,2,3,4,5,6,7,8,9,10,11,12] ?_
    refine qG ?_
    refine qB (fun h6=>?_) fun h6=>?_
    ·rw [hf (by rw [hok,hoth];simp [h6])]
     refine qX ?_
     exact qF (qI 0 7++qI 10 7++qO 1)
    simp only [h6,decide_true,Bool.not_true] at hoth
    have hP:=eo e.far (jN x) (by have:=iy hq1;omega)
    obtain⟨Q,hQ⟩:∃ Q,Q=aJ e.far (jN x):=⟨_,rfl⟩
    have hQl:Q.1.length<=1048576:=by rw [hQ];have:=iy hq1;have:=dR e.far (jN x);unfold aJ;split<;>dsimp only<;>omega
    rw [<-hQ] at hP
    refine qX ?_
    refine qK (hP) (qI 1 1) ?_
    refine qB (fun h7=>?_) fun h7=>?_
    ·rw [hf (by rw [hok,<-hQ];simp [h7])]
     refine qX ?_
     exact qF (qI 0 7++qI 10 7++qO 1)
    rw [ht _ (by rw [hok,hoth,<-hQ];simp [hon,h4,h5,h7]) hon hn,<-hQ]
    refine qX ?_
    refine aO [(15,16)] [(qU [0,2,3,11,2,1,14,4]),(qU [0,2,3,11,2,1,14,1,16,1,15,1,17,1])] (by kernel_rfl) (qC) (by kernel_rfl) ?_
    simp only [bm]
    refine⟨aa 400 ?_,aa 400 ?_⟩
    all_goals simp (disch:=omega) only [go_sem,seval]
    all_goals
     refine aQ (a5 x) [] ?_
     refine aQ (a0 (roadOf x) { ah with kind:=9,sgn:=e.subs[n].give,id:=x.id,addr:=x.addr }) [] ?_
     refine qG ?_
     refine qP (qI 0 7++qI 10 1++qI 18 1++qI 12 5++qI 19 1) ?_
     first|exact⟨⟩|simp [rO,aq,LetterD.cs]
   rw [hf (by rw [hok];simp [h4])]
   refine qG ?_
   exact qF (qI 0 7++qI 10 7++qO 1)
  rw [hf (by rw [hok];have:=a3 (e:=e) (x:=x) (by rintro⟨_,hh,_⟩;rw [h2] at hh;cases hh);simp;omega)]
  refine qG ?_
  exact qF (qI 0 7++qI 10 7++qO 1)
 rw [hf (by rw [hok];have:=a3 (e:=e) (x:=x) (by rintro⟨hh,_⟩;rw [h1] at hh;cases hh);simp;omega)]
 refine qG ?_
 exact qF (qI 0 7++qI 10 7++qO 1)
theorem lo (e:EndD) (x:LetterD) (hs:Small e):aP 132 [.ag (e.cs 0),.ag x.cs] (e.hp false) (.tu [.ag ((bD e x).1.cs 7),.sc (.sl 14 0 (bD e x).2.length)])
  (e.hp false++((bD e x).1.hp true++[some ⟨(bD e x).2.map LetterD.cs,19,48,true,true⟩])):=by
 have hC:=(qH (jF e))
 have hK:=(qH (ap e))
 have hA:=b6 e.own x.id (by have:=hs.own;omega)
 have hS:=a6 e x (by have:=hs.subs;omega)
 have hL:=a1 x
 have hbs:=rp e x
 have hbA:=fQ e.own x.id
 have hbd:=f9 e x
 have hf:=ue (e:=e) (x:=x)
 have ht:=fun (n:Nat)=> @uf e x n
 have hok:=hZ.eq_1 e x
 generalize bD e x=R at*
 refine qE Tryz.func132 Tryz.ntmps132 Tryz.results132 fun E hE=>?_
 refine qK (hC) (qI 0 7) ?_
 refine qK (hA) (qI 0 1) ?_
 rcases hbA with hi|⟨hi0,hi1⟩
 ·rw [hi]
  refine qX ?_
  rcases hbs with hk|⟨hk0,hk1⟩
  ·refine qD [0,1,2,3,4,5,6,7,8,9,10,11,12,13,14,15,16,17,18,19,20,21,22,23,24,25,26] ?_
   refine aQ (hK) (qI 0 7) ?_
   refine qB (fun h1=>?_) fun h1=>?_
   ·refine aQ (hL) [] ?_
    refine qB (fun h2=>?_) fun h2=>?_
    ·refine aQ (hS) (qI 0 7) ?_
     rw [hk]
     refine qX ?_
     rw [hf (oQ hi)]
     refine qG ?_
     exact qF (qI 0 7++qI 10 7++qO 1)
    rw [hf (oQ hi)]
    refine qG ?_
    exact qF (qI 0 7++qI 10 7++qO 1)
   rw [hf (oQ hi)]
   refine qG ?_
   exact qF (qI 0 7++qI 10 7++qO 1)
  obtain⟨n,hk⟩:=Int.eq_ofNat_of_zero_le hk0
  have hn:n < e.subs.length:=by omega
  refine qD [0,1,2,3,4,5,6,7,8,9,10,11,12,13,14,15,16,17,18,19,20,21,22,23,24,25,26] ?_
  refine aQ (hK) (qI 0 7) ?_
  refine qB (fun h1=>?_) fun h1=>?_
  ·refine aQ (hL) [] ?_
   refine qB (fun h2=>?_) fun h2=>?_
   ·refine aQ (hS) (qI 0 7) ?_
    rw [hk]
    refine qX ?_
    have hon:=ds h1 h2 hk
    rw [hf (oQ hi)]
    refine qG ?_
    exact qF (qI 0 7++qI 10 7++qO 1)
   rw [hf (oQ hi)]
   refine qG ?_
   exact qF (qI 0 7++qI 10 7++qO 1)
  rw [hf (oQ hi)]
  refine qG ?_
  exact qF (qI 0 7++qI 10 7++qO 1)
 obtain⟨i,hi⟩:=Int.eq_ofNat_of_zero_le hi0
 have hil:i < e.own.length:=by omega
 rw [hi]
 refine qX ?_
 rcases hbs with hk|⟨hk0,hk1⟩
 ·refine qD [0,1,2,3,4,5,6,7,8,9,10,11,12,13,14,15,16,17,18,19,20,21,22,23,24,25,26] ?_
  refine aQ (hK) (qI 0 7) ?_
  refine qB (fun h1=>?_) fun h1=>?_
  ·refine aQ (hL) [] ?_
   refine qB (fun h2=>?_) fun h2=>?_
   ·refine aQ (hS) (qI 0 7) ?_
    rw [hk]
    refine qX ?_
    rw [hf (by rw [kq hi hil];have:=a3 (e:=e) (x:=x) (by rintro⟨_,_,hh⟩;omega);simp;omega)]
    refine qG ?_
    exact qF (qI 0 7++qI 10 7++qO 1)
   rw [hf (by rw [kq hi hil];have:=a3 (e:=e) (x:=x) (by rintro⟨_,hh,_⟩;rw [h2] at hh;cases hh);simp;omega)]
   refine qG ?_
   exact qF (qI 0 7++qI 10 7++qO 1)
  rw [hf (by rw [kq hi hil];have:=a3 (e:=e) (x:=x) (by rintro⟨hh,_⟩;rw [h1] at hh;cases hh);simp;omega)]
  refine qG ?_
  exact qF (qI 0 7++qI 10 7++qO 1)
 obtain⟨n,hk⟩:=Int.eq_ofNat_of_zero_le hk0
 have hn:n < e.subs.length:=by omega
 refine qD [0,1,2,3,4,5,6,7,8,9,10,11,12,13,14,15,16,17,18,19,20,21,22,23,24,25,26] ?_
 refine aQ (hK) (qI 0 7) ?_
 refine qB (fun h1=>?_) fun h1=>?_
 ·refine aQ (hL) [] ?_
  refine qB (fun h2=>?_) fun h2=>?_
  ·refine aQ (hS) (qI 0 7) ?_
   rw [hk]
   refine qX ?_
   have hon:=ds h1 h2 hk
   refine qG ?_
   refine qB (fun h5=>?_) fun h5=>?_
   ·rw [ht _ (by rw [kq hi hil];simp [hon,h5]) hi hil]
    refine qX ?_
    refine qP (qI 0 7++qI 10 7++qO 1) ?_
    first|exact⟨⟩|simp [List.map_set,AddrD.cs]
   rw [hf (by rw [kq hi hil];simp [h5])]
   refine qX ?_
   exact qF (qI 0 7++qI 10 7++qO 1)
  rw [hf (by rw [kq hi hil];have:=a3 (e:=e) (x:=x) (by rintro⟨_,hh,_⟩;rw [h2] at hh;cases hh);simp;omega)]
  refine qG ?_
  exact qF (qI 0 7++qI 10 7++qO 1)
 rw [hf (by rw [kq hi hil];have:=a3 (e:=e) (x:=x) (by rintro⟨hh,_⟩;rw [h1] at hh;cases hh);simp;omega)]
 refine qG ?_
 exact qF (qI 0 7++qI 10 7++qO 1)
theorem lp (e:EndD) (x:LetterD) (hs:Small e):aP 133 [.ag (e.cs 0),.ag x.cs] (e.hp false) (.tu [.ag ((bE e x).1.cs 7),.sc (.sl 14 0 (bE e x).2.length)])
  (e.hp false++((bE e x).1.hp true++[some ⟨(bE e x).2.map LetterD.cs,19,48,true,true⟩])):=by
 have hC:=(qH (jF e))
 have hK:=(qH (ap e))
 have hA:=b6 e.far x.id (by have:=hs.far;omega)
 have hD:=kn e.far x.id (by have:=hs.far;omega)
 have hS:=a6 e x (by have:=hs.subs;omega)
 have hL:=a1 x
 have hbs:=rp e x
 have hbA:=fQ e.far x.id
 have hbd:=f9 e x
 have hf:=ui (e:=e) (x:=x)
 have ht:=fun (n:Nat)=> @uj e x n
 have hok:=mJ.eq_1 e x
 have hpl:=jJ e.over x.id
 generalize bE e x=R at*
 refine qE Tryz.func133 Tryz.ntmps133 Tryz.results133 fun E hE=>?_
 refine qK (hC) (qI 0 7) ?_
 refine qK (hA) (qI 1 1) ?_
 rcases hbA with hi|⟨hi0,hi1⟩
 ·rw [hi]
  refine qX ?_
  rcases hbs with hk|⟨hk0,hk1⟩
  ·refine qK (hK) (qI 0 7) ?_
   refine qB (fun h1=>?_) fun h1=>?_
   ·refine qK (hL) [] ?_
    refine qB (fun h2=>?_) fun h2=>?_
    ·refine qK (hS) (qI 0 7) ?_
     rw [hk]
     refine qX ?_
     rw [hf (by rw [hok];have:=a3 (e:=e) (x:=x) (by rintro⟨_,_,hh⟩;omega);simp;omega)]
     refine qX ?_
     exact qF (qI 0 7++qI 10 7++qO 1)
    rw [hf (by rw [hok];have:=a3 (e:=e) (x:=x) (by rintro⟨_,hh,_⟩;rw [h2] at hh;cases hh);simp;omega)]
    refine qX ?_
    exact qF (qI 0 7++qI 10 7++qO 1)
   rw [hf (by rw [hok];have:=a3 (e:=e) (x:=x) (by rintro⟨hh,_⟩;rw [h1] at hh;cases hh);simp;omega)]
   refine qX ?_
   exact qF (qI 0 7++qI 10 7++qO 1)
  obtain⟨n,hk⟩:=Int.eq_ofNat_of_zero_le hk0
  have hn:n < e.subs.length:=by omega
  refine qK (hK) (qI 0 7) ?_
  refine qB (fun h1=>?_) fun h1=>?_
  ·refine qK (hL) [] ?_
   refine qB (fun h2=>?_) fun h2=>?_
   ·refine qK (hS) (qI 0 7) ?_
    rw [hk]
    refine qX ?_
    have hon:=ds h1 h2 hk
    have hq1:=h1
    rw [hf (by rw [hok];simp [hi])]
    refine qX ?_
    exact qF (qI 0 7++qI 10 7++qO 1)
   rw [hf (by rw [hok];have:=a3 (e:=e) (x:=x) (by rintro⟨_,hh,_⟩;rw [h2] at hh;cases hh);simp;omega)]
   refine qX ?_
   exact qF (qI 0 7++qI 10 7++qO 1)
  rw [hf (by rw [hok];have:=a3 (e:=e) (x:=x) (by rintro⟨hh,_⟩;rw [h1] at hh;cases hh);simp;omega)]
  refine qX ?_
  exact qF (qI 0 7++qI 10 7++qO 1)
 obtain⟨i,hi⟩:=Int.eq_ofNat_of_zero_le hi0
 have hil:i < e.far.length:=by omega
 rw [hi]
 refine qX ?_
 rcases hbs with hk|⟨hk0,hk1⟩
 ·refine qK (hK) (qI 0 7) ?_
  refine qB (fun h1=>?_) fun h1=>?_
  ·refine qK (hL) [] ?_
   refine qB (fun h2=>?_) fun h2=>?_
   ·refine qK (hS) (qI 0 7) ?_
    rw [hk]
    refine qX ?_
    rw [hf (by rw [hok];have:=a3 (e:=e) (x:=x) (by rintro⟨_,_,hh⟩;omega);simp;omega)]
    refine qX ?_
    exact qF (qI 0 7++qI 10 7++qO 1)
   rw [hf (by rw [hok];have:=a3 (e:=e) (x:=x) (by rintro⟨_,hh,_⟩;rw [h2] at hh;cases hh);simp;omega)]
   refine qX ?_
   exact qF (qI 0 7++qI 10 7++qO 1)
  rw [hf (by rw [hok];have:=a3 (e:=e) (x:=x) (by rintro⟨hh,_⟩;rw [h1] at hh;cases hh);simp;omega)]
  refine qX ?_
  exact qF (qI 0 7++qI 10 7++qO 1)
 obtain⟨n,hk⟩:=Int.eq_ofNat_of_zero_le hk0
 have hn:n < e.subs.length:=by omega
 refine qK (hK) (qI 0 7) ?_
 refine qB (fun h1=>?_) fun h1=>?_
 ·refine qK (hL) [] ?_
  refine qB (fun h2=>?_) fun h2=>?_
  ·refine qK (hS) (qI 0 7) ?_
   rw [hk]
   refine qX ?_
   have hon:=ds h1 h2 hk
   have hq1:=h1
   rw [ht _ (by rw [hok];simp [hon,hi]) hi hil]
   have hdl:(be e.far x.id).1.length<=e.far.length:=by rw [mG hi];simp;omega
   refine qX ?_
   refine qK (hD) (qI 1 1) ?_
   refine qK (o1 e.over x.id (by have:=uk hq1;omega)) (qI 6 1) ?_
   refine gN 7 hE (fun s (k:Nat)=>s.at (qU [0,4,7,1,9,50,61,17]) [(60,.sc (.int .i64 (k:Nat)))] (s.hp.set 12 (some ⟨(dE e.far[i].addr e.subs k).map SubD.cs,10,101,true,true⟩))) (fun (k:Nat)=>k<=e.subs.length) (fun (k:Nat)=>e.subs.length - k) 0 (qI 0 20) (qC) (Nat.zero_le _) (bw (by rfl) (by rfl) ?_) fun k hk N hN=>?_
   ·refine qX ?_
    rw [uh]
   refine ac 400 ?_
   have hsb:=hs.subs
   have hgl:(dE e.far[i].addr e.subs k).length=e.subs.length:=wW
   refine qX ?_
   refine qB (fun h=>?_) fun h=>?_
   ·have hg:∀ p:k < (dE e.far[i].addr e.subs k).length,(dE e.far[i].addr e.subs k)[k]'p=e.subs[k]:=by
     intro p
     have hq:=yX (a:=e.far[i].addr) h
     rw [List.getElem?_eq_getElem p] at hq
     exact Option.some.inj hq
    try simp (disch:=omega) only [go_sem,seval,hg]
    refine qB (fun h9=>?_) fun h9=>?_
    ·refine qX ?_
     refine⟨qC,hN _ (k+1) (qI 0 20) (by (try dsimp only);exact by omega) (by (try dsimp only);omega) (bw (by rfl) (by rfl) ?_)⟩
     refine qX ?_
     rw [<-wX h,List.map_set]
     simp [jP,h9,hg,SubD.cs]
    refine qX ?_
    refine⟨qC,hN _ (k+1) (qI 0 20) (by (try dsimp only);exact by omega) (by (try dsimp only);omega) (bw (by rfl) (by rfl) ?_)⟩
    refine qX ?_
    rw [ug h h9]
   have hkl:k=e.subs.length:=by omega
   subst hkl
   rw [wY]
   refine qX ?_
   exact qF (qI 0 7++qI 10 1++qI 18 1++qI 12 4++qI 19 1++qO 1)
  rw [hf (by rw [hok];have:=a3 (e:=e) (x:=x) (by rintro⟨_,hh,_⟩;rw [h2] at hh;cases hh);simp;omega)]
  refine qX ?_
  exact qF (qI 0 7++qI 10 7++qO 1)
 rw [hf (by rw [hok];have:=a3 (e:=e) (x:=x) (by rintro⟨hh,_⟩;rw [h1] at hh;cases hh);simp;omega)]
 refine qX ?_
 exact qF (qI 0 7++qI 10 7++qO 1)
theorem d4 (w:WorldD) (e:EndD):aP 67 [.sc (.pt 28 0 0),.sc (.int .i64 1),.ag (e.cs 21)] (w.hp false++(e.hp false++[some ⟨[w.cs 0],61,44,true,false⟩])) (.tu [])
  (w.hp false++(e.hp false++[some ⟨[(eg { w with a:=e } 21 22 23 24 25 26 27 7 8 9 10 11 12 13 14 15 16 17 18 19 20)],61,44,true,false⟩])):=by
 refine gU Tryz.func67 Tryz.ntmps67 Tryz.results67 fun E hE=>?_
 exact dk (qI 0 29)
theorem e5 (w:WorldD) (e:EndD):aP 67 [.sc (.pt 28 0 0),.sc (.int .i64 2),.ag (e.cs 21)] (w.hp false++(e.hp false++[some ⟨[w.cs 0],61,44,true,false⟩])) (.tu [])
  (w.hp false++(e.hp false++[some ⟨[(eg { w with b:=e } 0 1 2 3 4 5 6 21 22 23 24 25 26 27 14 15 16 17 18 19 20)],61,44,true,false⟩])):=by
 refine gU Tryz.func67 Tryz.ntmps67 Tryz.results67 fun E hE=>?_
 exact dk (qI 0 29)
def OZ (P:Program) (r:Array Oper) (T:List Nat) (X:List (Nat×Nat)) (os:List (List Nat)):List (Nat×Nat)->List (Nat×Nat)->Bool
 |[],ex=>yk X ex || os.any fun σ=>j9 P r T ex σ
 |u::U,ex=>yk X ex || (OZ P r T X os U (u::ex) && OZ P r T X os U ((u.2,u.1)::ex))
theorem KI {P:Program} {r:Array Oper} {T:List Nat} {X:List (Nat×Nat)} {os:List (List Nat)} {l:List Nat} (hX:∀ u∈X,u.1≠u.2/\aL l u.1 u.2=true):
  ∀ {U ex:List (Nat×Nat)},(∀ u∈U,u.1≠u.2)->(∀ u∈ex,u.1≠u.2/\aL l u.1 u.2=true)->OZ P r T X os U ex=true->∃ ex':List (Nat×Nat),(∀ u∈ex',u.1≠u.2/\aL l u.1 u.2=true)/\∃ σ∈os,j9 P r T ex' σ=true
 |[],ex,hU,hex,h=>by
  simp only [OZ,Bool.or_eq_true] at h
  rcases h with h|h
  ·exact (ml hX hex h).elim
  obtain⟨σ,h1,h2⟩:=List.any_eq_true.1 h
  exact⟨ex,hex,σ,h1,h2⟩
 |(x,y)::U,ex,hU,hex,h=>by
  simp only [OZ,Bool.or_eq_true,Bool.and_eq_true] at h
  rcases h with h|⟨ha,hb⟩
  ·exact (ml hX hex h).elim
  have hne:x≠y:=hU (x,y) (List.mem_cons_self ..)
  rcases fY hne (l:=l) with h3|h3
  ·refine KI hX (fun u hu=>hU u (List.mem_cons_of_mem _ hu)) (fun u hu=>?_) ha
   rcases List.mem_cons.1 hu with rfl|hu
   ·exact⟨hne,h3⟩
   exact hex u hu
  refine KI hX (fun u hu=>hU u (List.mem_cons_of_mem _ hu)) (fun u hu=>?_) hb
  rcases List.mem_cons.1 hu with rfl|hu
  ·exact⟨hne.symm,h3⟩
  exact hex u hu
def O2 (P:Program) (r:Array Oper) (U X:List (Nat×Nat)) (os:List (List Nat)):Bool:=
 jt r && U.all (fun u=>u.1 != u.2) && X.all (fun u=>u.1 != u.2 && (rg r u.1 u.2 && decide (u.1 < r.size))) && os.all (fun σ=>σ.length == r.size && (List.range r.size).all σ.contains && σ.all fun i=>decide (i < r.size)) &&
 (let T:=vp r;OZ P r T X os U [])
theorem Pd {P:Program} {E:Entry} {id:Nat} {r:Array Oper} {U X:List (Nat×Nat)} {os:List (List Nat)} (hP:P.follows .mixedOrders=true) (hcov:O2 P r U X os=true) {s:S} {K:S->Prop}
  (h:∀ σ∈os,∃ s',tw P r σ s s'/\∀ β a w,Sim E β s' a w->∃ β' t,K t/\Sim E β' t a w):kG P E (.region id r true) s fun e s'=>e=.normal/\K s':=by
 intro β a w hs Q hQ
 refine wp_region_draw fun t=>?_
 simp only [Region.schedule,hP,Bool.true_or,if_true]
 simp only [O2,Bool.and_eq_true] at hcov
 obtain⟨⟨⟨⟨hback,hU⟩,hX⟩,hperm⟩,hch⟩:=hcov
 have hd:=gS (r:=r) r.size t (Array.replicate r.size false)
 have hXb:∀ v∈X,v.1≠v.2/\aL (Region.linearise .any r t) v.1 v.2=true:=by
  intro v hv
  have hx:=List.all_eq_true.1 hX v hv
  simp only [Bool.and_eq_true,bne_iff_ne,ne_eq,decide_eq_true_eq] at hx
  obtain⟨h1,h5,h6⟩:=hx
  refine⟨h1,?_⟩
  unfold rg at h5
  split at h5
  ·rename_i o ho
   obtain⟨e,he,he2⟩:=List.any_eq_true.1 h5
   simp only [Bool.and_eq_true,beq_iff_eq] at he2
   exact eT hback hd ho he he2.1 he2.2 (by simp) (by simp [Array.getD_eq_getD_getElem?,h6])
  cases h5
 obtain⟨ex,hbef,σ,hσ,hok⟩:=KI hXb (fun u hu=>by
  have:=List.all_eq_true.1 hU u hu
  simpa using this) (fun u hu=>by cases hu) hch
 have hp:=List.all_eq_true.1 hperm σ hσ
 simp only [Bool.and_eq_true,beq_iff_eq,List.all_eq_true,List.mem_range,decide_eq_true_eq] at hp
 obtain⟨⟨hlen,hall⟩,hlt⟩:=hp
 obtain⟨s',hrun,hK⟩:=h σ hσ
 have hs2:Sim E β s a { w with drawn:=w.drawn+1 }:=⟨hs.dfr,hs.sl,⟨hs.hp.len,hs.hp.ob,hs.hp.flat,hs.hp.apart⟩,hs.ent,⟨hs.st.le,hs.st.os,hs.st.tape,hs.st.output,hs.st.size,hs.st.block,hs.st.len,hs.st.old,hs.st.fresh⟩⟩
 refine kP hback (fun β' a' w' hs'=>let⟨β2,t2,hk2,hs2⟩:=hK β' a' w' hs';hQ .normal t2 β2 a' w' ⟨rfl,hk2⟩ hs2) (Region.linearise .any r t) r.size _ σ s β a _ hd (by simp) (by omega) (fun i=>?_) (fun i o ho hl=>?_) hok (fun p q hpq _ _=>(hbef (p,q) (List.contains_iff_mem.1 hpq)).2) hrun hs2
 ·constructor
  ·intro hi
   refine⟨hlt i hi,?_⟩
   simp [Array.getD_eq_getD_getElem?,hlt i hi]
  rintro⟨hi,_⟩
  simpa using hall i hi
 exfalso
 simp only [Array.getD_eq_getD_getElem?,Array.getElem?_replicate] at hl
 split at hl<;>cases hl
theorem Pe {P:Program} {E:Entry} {F:S->Prop} {id:Nat} {r:Array Oper} {k:List Item} {s:S} {c:Prop} (U X:List (Nat×Nat)) (os:List (List Nat)) (hP:P.follows .mixedOrders=true) (hc:c) (hcov:O2 P r U X os=true)
  (h:bm (fun σ=>tB P r (fun s'=>dX P E F (.go k s' True)) (.go σ s True)) os):dX P E F (.draw id r k s c):=by
 refine⟨hc,dJ (Pd hP hcov (K:=fun s'=>dX P E F (.go k s' True)) fun σ hσ=>let⟨s',h1,h2⟩:=(fJ h σ hσ).2;⟨s',h1,fun β a w hs=>⟨β,s',h2,hs⟩⟩) fun e s' hk=>?_⟩
 obtain⟨rfl,hk⟩:=hk
 exact hk.2
theorem HX {n:Int}:gA n=true↔N9 n:=by simp [gA,N9]
theorem u0 {r:RoadD}:ms r=true↔RN r:=by simp [ms,RN,HX,and_assoc]
theorem g9 {a b:RoadD}:dM a b=true↔a=b:=⟨oM,fun h=>by subst h;simp [dM]⟩
theorem Hg {l:List Int} {t:List AddrD}:oH l t=true↔IdOk l t:=by
 simp only [oH,Bool.and_eq_true]
 constructor
 ·rintro⟨h1,h2⟩
  have hc:∀ (j:Nat) (hj:j+1 < l.length),l[j] < l[j+1]:=by
   intro j hj
   have:=iz h1 hj
   simp only [cK,Bool.or_eq_true,beq_iff_eq,decide_eq_true_eq,Nat.add_sub_cancel,A1 hj,A1 (show j < l.length by omega)] at this
   rcases this with h|h
   ·omega
   exact h
  have hid:∀ (j i:Nat) (hj:j < l.length) (hi:i < j),l[i] < l[j]:=by
   intro j
   induction j with
   |zero=>intro i hj hi;omega
   |succ j ih=>
    intro i hj hi
    have h3:=hc j hj
    by_cases hij:i=j
    ·subst hij;exact h3
    have:=ih i (by omega) (by omega);omega
  refine⟨?_,fun n hn=>?_⟩
  ·rw [List.pairwise_iff_getElem]
   intro i j hi hj hij
   exact hid j i hj hij
  obtain⟨j,hj,rfl⟩:=List.getElem_of_mem hn
  have:=iz h2 hj
  simp only [fE,Bool.and_eq_true,vP,decide_eq_true_eq,A1 hj] at this
  exact⟨this.1,uR.1 this.2⟩
 rintro⟨h1,h2⟩
 rw [List.pairwise_iff_getElem] at h1
 refine⟨ed fun j hj=>?_,ed fun j hj=>?_⟩
 ·simp only [cK,Bool.or_eq_true,beq_iff_eq,decide_eq_true_eq]
  rcases Nat.eq_zero_or_pos j with h0|h0
  ·exact .inl h0
  refine .inr ?_
  rw [A1 hj,A1 (show j - 1 < l.length by omega)]
  exact h1 (j - 1) j (by omega) hj (by omega)
 have:=h2 l[j] (List.getElem_mem hj)
 simp only [fE,Bool.and_eq_true,vP,decide_eq_true_eq,A1 hj]
 exact⟨this.1,uR.2 this.2⟩
theorem Gr {l:List Int} {n:Int}:n∈gf l n:=by
 rw [gf];split
 ·rename_i h
  obtain⟨h1,h2⟩:=h
  rw [A1 h1] at h2
  rw [<-h2];exact List.getElem_mem _
 simp
theorem Gs {l:List Int} {n x:Int} (h:x∈l):x∈gf l n:=by
 rw [gf];split
 ·exact h
 have:=List.take_append_drop (gd l n) l
 rw [<-this] at h
 rcases List.mem_append.1 h with h|h
 ·exact List.mem_append_left _ (List.mem_append_left _ h)
 exact List.mem_append_right _ h
theorem E2 {l:List HalfD}:cv l=true↔HaOk l:=by
 simp only [cv,Bool.and_eq_true,decide_eq_true_eq]
 have hat:∀ (j:Nat) (hj:j < l.length),a_ l l[j].road=(j:Int)↔∀ (i:Nat) (hi:i < j),¬ l[i].road=l[j].road:=by
  intro j hj
  rw [a_,xE]
  constructor
  ·rintro⟨_,_,h⟩ i hi
   have:=h i hi
   intro hc
   rw [hc,g9.2 rfl] at this
   cases this
  intro h
  exact⟨hj,g9.2 rfl,fun i hi=>by
   cases hq:dM l[i].road l[j].road with
   |false=>rfl
   |true=>exact absurd (g9.1 hq) (h i hi)⟩
 have hel:∀ (j:Nat) (hj:j < l.length),fO l j=true↔HaE l[j]/\a_ l l[j].road=(j:Int):=by
  intro j hj
  simp only [fO,tG hj,Bool.and_eq_true,u0,List.all_cons,List.all_nil,HX,beq_iff_eq,and_true,HaE]
 constructor
 ·rintro⟨h1,h2⟩
  have hu:=fun (j:Nat) (hj:j < l.length)=>(hel j hj).1 (iz h2 hj)
  refine⟨by omega,fun h hh=>?_,?_⟩
  ·obtain⟨j,hj,rfl⟩:=List.getElem_of_mem hh
   exact (hu j hj).1
  rw [List.pairwise_iff_getElem]
  intro i j hi hj hij
  exact (hat j hj).1 (hu j hj).2 i hij
 rintro⟨h1,h2,h3⟩
 rw [List.pairwise_iff_getElem] at h3
 exact⟨by omega,ed fun j hj=>(hel j hj).2 ⟨h2 _ (List.getElem_mem hj),(hat j hj).2 fun i hi=>h3 i j (by omega) hj hi⟩⟩
theorem HaOk.young {l:List HalfD} {n:Int} (h:HaOk l):HaOk (bx l n):=h.sub List.filter_sublist
theorem FN {l:List SubD} {r:RoadD}:aU l r < 0↔∀ s∈l,s.state=4\/¬ s.road=r:=by
 rw [aU,xF]
 refine forall_congr' fun s=>forall_congr' fun hs=>?_
 by_cases h1:s.state=4
 ·simp [h1]
 by_cases h2:s.road=r
 ·subst h2;simp [h1,g9]
 have:dM s.road r=false:=by
  cases hq:dM s.road r with
  |false=>rfl
  |true=>exact absurd (g9.1 hq) h2
 simp [this,h2]
theorem EV {l:List SubD} {r:RoadD} {n:Nat}:aU l r=(n:Int)↔∃ h:n < l.length,¬ l[n].state=4/\l[n].road=r/\∀ (i:Nat) (hi:i < n),l[i].state=4\/¬ l[i].road=r:=by
 rw [aU,xE]
 refine exists_congr fun h=>?_
 have hp:∀ s:SubD,(s.state != 4 && dM s.road r)=false↔s.state=4\/¬ s.road=r:=by
  intro s
  by_cases h1:s.state=4
  ·simp [h1]
  cases hq:dM s.road r with
  |false=>simp [h1,show ¬ s.road=r from fun hc=>by rw [g9.2 hc] at hq;cases hq]
  |true=>simp [h1,g9.1 hq]
 simp only [hp]
 rw [<-and_assoc]
 refine and_congr_left fun _=>?_
 simp [g9]
theorem GM {l:List SubD}:dy (cz l) l.length=true↔SuOk l:=by
 have hel:∀ (j:Nat) (hj:j < l.length),cz l j=true↔SuE l[j]/\(l[j].state=4\/aU l l[j].road=(j:Int)):=by
  intro j hj
  simp only [cz,ke hj,Bool.and_eq_true,vP,u0,List.all_cons,List.all_nil,HX,beq_iff_eq,and_true,Bool.or_eq_true,SuE]
  constructor
  ·rintro⟨⟨⟨a,b⟩,c⟩,d⟩;exact⟨⟨a,b,c⟩,d⟩
  rintro⟨⟨a,b,c⟩,d⟩;exact⟨⟨⟨a,b⟩,c⟩,d⟩
 constructor
 ·intro h2
  have hu:=fun (j:Nat) (hj:j < l.length)=>(hel j hj).1 (iz h2 hj)
  refine⟨fun s hs=>?_,?_⟩
  ·obtain⟨j,hj,rfl⟩:=List.getElem_of_mem hs
   exact (hu j hj).1
  rw [List.pairwise_iff_getElem]
  intro i j hi hj hij
  rcases (hu j hj).2 with h|h
  ·exact .inr (.inl h)
  obtain⟨_,_,_,h⟩:=EV.1 h
  rcases h i hij with h|h
  ·exact .inl h
  exact .inr (.inr h)
 rintro⟨h2,h3⟩
 rw [List.pairwise_iff_getElem] at h3
 refine ed fun j hj=>(hel j hj).2 ⟨h2 _ (List.getElem_mem hj),?_⟩
 by_cases h4:l[j].state=4
 ·exact .inl h4
 refine .inr (EV.2 ⟨hj,h4,rfl,fun i hi=>?_⟩)
 rcases h3 i j (by omega) hj hi with h|h|h
 ·exact .inl h
 ·exact absurd h h4
 exact .inr h
theorem SuOk.st4 {l:List SubD} {n:Nat} (h:SuOk l) (hn:n < l.length):SuOk (bP l n 4):=by
 rw [gW hn]
 exact h.set hn ((h.el _ (List.getElem_mem hn)).st (by omega)) rfl fun _=>rfl
theorem p5 {e:EndD}:af e=true↔OkE e:=by
 simp only [af,Bool.and_eq_true,vP,sM,E2,Hg,GM,List.all_cons,List.all_nil,HX,decide_eq_true_eq,and_true]
 constructor
 ·rintro⟨⟨⟨⟨⟨⟨⟨⟨⟨⟨⟨⟨⟨a1,a2⟩,a3⟩,a4⟩,a5⟩,a6⟩,a7⟩,a8⟩,a9⟩,a10⟩,a11⟩,a12⟩,a13⟩,a14⟩
  exact⟨a1,a2,a3,a4,a5,a6,a7,a8,a9,a10,a11,by omega,a13,a14⟩
 rintro⟨a1,a2,a3,a4,a5,a6,a7,a8,a9,a10,a11,a12,a13,a14⟩
 exact⟨⟨⟨⟨⟨⟨⟨⟨⟨⟨⟨⟨⟨a1,a2⟩,a3⟩,a4⟩,a5⟩,a6⟩,a7⟩,a8⟩,a9⟩,a10⟩,a11⟩,by omega⟩,a13⟩,a14⟩
theorem v2 {x:LetterD} (h:dZ x=true):N9 x.frm/\N9 x.to/\N9 x.port/\N9 x.nonce/\N9 x.give/\N9 x.sgn/\N9 x.id/\N9 x.addr/\N9 x.pos:=by
 simp only [dZ,bj,iv,List.all_cons,List.all_nil,gA,Bool.and_eq_true,decide_eq_true_eq,Bool.and_true] at h
 simp only [N9]
 omega
theorem Fq {b:BucketD} (h:bucketOk b=true):bucketOk (bI b).1=true:=by
 rw [bI];split
 ·rename_i hc
  simp only [bucketOk,Bool.and_eq_true,vP] at h⊢
  have:=hc.2
  omega
 exact h
theorem FO {b:BucketD} (h:bucketOk b=true):bucketOk (cr b)=true:=by
 rw [cr,if_pos h]
 simp only [bucketOk,Bool.and_eq_true,vP] at h⊢
 omega
theorem u3 {o:OutD}:outOk o=true↔FineO o:=by
 refine⟨gp,fun h=>?_⟩
 obtain⟨h1,h2,h3,h4,h5⟩:=h
 simp only [outOk,gA,bj,Bool.and_eq_true,decide_eq_true_eq]
 rw [ym (by omega)]
 omega
theorem HY {o:OutD} {n:Int} (h:outOk o=true) (hn:N9 n):outOk (nI o n)=true:=by
 have F:=gp h
 obtain⟨h1,h2,h3,h4,h5⟩:=F
 rw [nI];split
 ·rename_i hc
  obtain⟨_,c1,c2⟩:=hc
  rw [ym (by omega)] at c2
  rw [u3]
  refine⟨hn,h2,?_,?_⟩
  ·simp only [List.length_drop];omega
  simp only [List.length_drop];split<;>omega
 exact h
theorem wp {l:List Int} {n:Int}:mq l n=true↔n∈l:=by simp [mq]
theorem HI {l:List Int} {n:Int}:mq l n=false↔¬ n∈l:=by rw [<-wp];simp
theorem ws {l:List SubD} {r:RoadD} (h:0<=aU l r):∃ n:Nat,aU l r=(n:Int)/\∃ hn:n < l.length,¬ l[n].state=4/\l[n].road=r/\∀ (i:Nat) (hi:i < n),l[i].state=4\/¬ l[i].road=r:=by
 obtain⟨n,hn⟩:=xG h
 exact⟨n,hn,EV.1 hn⟩
theorem Fr {l:List HalfD} {r:RoadD} (h:0<=a_ l r):∃ n:Nat,a_ l r=(n:Int)/\∃ hn:n < l.length,l[n].road=r:=by
 obtain⟨n,hn⟩:=xG h
 obtain⟨h1,h2,_⟩:=xE.1 hn
 exact⟨n,hn,h1,g9.1 h2⟩
theorem EW {l:List AddrD} {k:Int} (h:0<=aG l k):∃ n:Nat,aG l k=(n:Int)/\∃ hn:n < l.length,l[n].id=k:=by
 obtain⟨n,hn⟩:=xG h
 obtain⟨h1,h2,_⟩:=xE.1 hn
 exact⟨n,hn,h1,by simpa using h2⟩
theorem Hh {e:EndD} {x:LetterD} (h:0<=fo e x):∃ n:Nat,fo e x=(n:Int)/\cF e x=(n:Int)/\∃ hn:n < e.subs.length,e.subs[n].state=3/\e.subs[n].take=x.sgn/\e.subs[n].road=roadOf x/\dZ x=true:=by
 rcases f9 e x with h0|⟨n,h1,h2,h3,_,h5⟩
 ·omega
 refine⟨n,h1,h2,h3,?_⟩
 rw [cF] at h2
 split at h2
 ·omega
 rename_i h6
 split at h2
 ·rename_i h7
  obtain⟨m,hm,hmn,_,hr,_⟩:=ws (show 0<=aU e.subs (roadOf x) by omega)
  have:m=n:=by omega
  subst this
  rw [hm,Int.toNat_natCast,ke hmn] at h7
  exact⟨h7.1,h7.2,hr,h5⟩
 omega
theorem Hi {x:LetterD} (h:dZ x=true):RN (roadOf x):=by
 obtain⟨h1,h2,h3,_⟩:=v2 h
 exact⟨h2,h1,h3⟩
theorem GY {e:EndD} {x:LetterD} (h:OkE e) (hst:e.state=2):OkE (bM e x).1/\(bM e x).1.state=2:=by
 refine jS (Q:=fun r=>OkE r.1/\r.1.state=2) ⟨h,hst⟩ ?_ ?_ ?_ ?_ ?_ ?_ ?_ ?_ ?_ ?_ ?_ ?_
 ·unfold ax;split
  ·rename_i hk
   simp only [f8,Bool.and_eq_true,decide_eq_true_eq] at hk
   omega
  exact⟨h,hst⟩
 ·unfold aS;split
  ·rename_i hk
   simp only [i2,Bool.and_eq_true,decide_eq_true_eq] at hk
   omega
  exact⟨h,hst⟩
 ·unfold br;split
  ·rename_i hk
   simp only [rF,Bool.and_eq_true,decide_eq_true_eq,vP] at hk
   obtain⟨⟨⟨⟨⟨⟨⟨⟨⟨k1,k2⟩,k3⟩,k4⟩,k5⟩,k6⟩,k7⟩,k8⟩,k9⟩,k10⟩:=hk
   have hd:N9 (e.draw+4):=⟨by omega,by omega⟩
   split
   ·rename_i hs
    simp only [fg,Bool.and_eq_true,decide_eq_true_eq] at hs
    obtain⟨n,e1,hn,_⟩:=Fr hs.1.1
    refine⟨⟨h.side,h.state,h.pol,h.own,h.far,?_,Fq h.bucket,h.out,h.inp,h.done,h.over,h.subs8,h.nums,h.subs⟩,hst⟩
    dsimp only
    rw [wP,e1,Int.toNat_natCast,g0 hn]
    refine h.halfs.pt (by simp) fun i h1 h2=>?_
    rw [List.getElem_set]
    have hel:=h.halfs.el _ (List.getElem_mem h2)
    split
    ·rename_i e;subst e
     exact⟨⟨hel.1,hel.2.1,hel.2.2.1,hel.2.2.2.1,hel.2.2.2.2.1,by have:=h.nums.2.2.2.1;simp only [N9] at this⊢;omega⟩,rfl⟩
    exact⟨hel,rfl⟩
   refine⟨⟨h.side,h.state,h.pol,h.own,h.far,?_,Fq h.bucket,h.out,h.inp,h.done,h.over,h.subs8,⟨h.nums.1,h.nums.2.1,hd,h.nums.2.2.2⟩,h.subs⟩,hst⟩
   dsimp only
   rw [bJ];split
   ·rename_i hh;exact E2.1 hh
   exact h.halfs
  exact⟨h,hst⟩
 ·unfold ay;split
  ·rename_i hk
   simp only [tO,Bool.and_eq_true,decide_eq_true_eq] at hk
   obtain⟨⟨⟨⟨⟨k1,k2⟩,k3⟩,k4⟩,k5⟩,k6⟩:=hk
   obtain⟨n,e1,hn,_,_,_⟩:=ws k4
   rw [e1,Int.toNat_natCast,ke hn] at k5
   obtain⟨_,_,_,x1,x2,_⟩:=v2 k2
   have hel:=h.subs.el _ (List.getElem_mem hn)
   refine⟨⟨h.side,h.state,h.pol,h.own,h.far,h.halfs,h.bucket,h.out,h.inp,h.done,h.over,by dsimp only;rw [List.length_set];exact h.subs8,h.nums,?_⟩,hst⟩
   dsimp only
   rw [e1,Int.toNat_natCast,ke hn]
   exact h.subs.set hn ⟨by simp [mD],hel.2.1,hel.2.2.1,x1,x2,hel.2.2.2.2.2.1,by simp [mD,N9]⟩ rfl fun h4=>by omega
  exact⟨h,hst⟩
 ·unfold ao;split
  ·rename_i hk
   simp only [mE,Bool.and_eq_true,decide_eq_true_eq] at hk
   split
   ·rename_i ha
    simp only [rE,Bool.and_eq_true,decide_eq_true_eq] at ha
    obtain⟨i,e2,hi,_⟩:=Fr ha.1.1
    have hel:=h.halfs.el _ (List.getElem_mem hi)
    have hsu:SuE (jI (roadOf x) (wP e x)):=by
     rw [wP,e2,Int.toNat_natCast,g0 hi]
     exact⟨by simp [jI],Hi hk.1.2,hel.2.2.1,hel.2.1,hel.2.2.2.1,hel.2.2.2.2.1,by simp [jI,N9]⟩
    refine⟨⟨h.side,h.state,h.pol,h.own,h.far,h.halfs.drop,h.bucket,h.out,h.inp,h.done,h.over,?_,h.nums,?_⟩,hst⟩
    ·dsimp only
     split<;>simp only [bP,List.length_append,List.length_set,List.length_singleton]<;>omega
    dsimp only
    split
    ·rename_i h0
     obtain⟨n,e1,hn,k1,k2,k3⟩:=ws h0
     rw [e1,Int.toNat_natCast]
     refine (h.subs.st4 hn).app hsu fun y hy=>?_
     rw [gW hn] at hy
     obtain⟨j,hj,rfl⟩:=List.getElem_of_mem hy
     rw [List.getElem_set]
     split
     ·exact .inl rfl
     rename_i hnj
     rw [List.length_set] at hj
     have hq:=h.subs.pw
     rw [List.pairwise_iff_getElem] at hq
     have:e.subs[j].state=4\/¬ e.subs[j].road=e.subs[n].road:=by
      rcases Nat.lt_or_gt_of_ne hnj with hl|hl
      ·rcases hq n j hn hj hl with q|q|q
       ·exact absurd q k1
       ·exact .inl q
       exact .inr fun hc=>q hc.symm
      rcases hq j n hj hn hl with q|q|q
      ·exact .inl q
      ·exact absurd q k1
      exact .inr q
     rw [k2] at this
     exact this
    rename_i h0
    refine h.subs.app hsu fun y hy=>?_
    exact FN.1 (show aU e.subs (roadOf x) < 0 by omega) y hy
   split<;>exact⟨h,hst⟩
  exact⟨h,hst⟩
 ·unfold aE;dsimp only;split
  ·rename_i hk
   simp only [mu,Bool.and_eq_true,decide_eq_true_eq] at hk
   obtain⟨⟨⟨⟨k1,k2⟩,k3⟩,k4⟩,k5⟩:=hk
   obtain⟨n,e1,hn,_,_,_⟩:=ws k3
   rw [e1,Int.toNat_natCast,ke hn] at k4
   refine⟨⟨h.side,h.state,h.pol,h.own,h.far,h.halfs,h.bucket,h.out,h.inp,h.done,h.over,by dsimp only;rw [bP,List.length_set];exact h.subs8,h.nums,?_⟩,hst⟩
   dsimp only
   rw [e1,Int.toNat_natCast,gW hn]
   exact h.subs.set hn ((h.subs.el _ (List.getElem_mem hn)).st (by omega)) rfl fun h4=>by omega
  exact⟨h,hst⟩
 ·unfold bC;split
  ·rename_i hk
   simp only [lH,Bool.and_eq_true,Bool.not_eq_true',HI] at hk
   exact⟨⟨h.side,h.state,h.pol,h.own,h.far.put,h.halfs,h.bucket,h.out,h.inp,h.done,h.over.put hk.1.1.2,h.subs8,h.nums,h.subs⟩,hst⟩
  exact⟨h,hst⟩
 ·unfold bD;dsimp only;split
  ·rename_i hk
   simp only [hZ,Bool.and_eq_true,decide_eq_true_eq] at hk
   obtain⟨n,e1,hn,_⟩:=EW hk.1.2
   have hp:∀ (i:Nat) (h1:i < (e.own.set (aG e.own x.id).toNat { kU e.own (aG e.own x.id).toNat with told:=true }).length) (h2:i < e.own.length),
     (e.own.set (aG e.own x.id).toNat { kU e.own (aG e.own x.id).toNat with told:=true })[i].id=e.own[i].id/\(e.own.set (aG e.own x.id).toNat { kU e.own (aG e.own x.id).toNat with told:=true })[i].addr=e.own[i].addr:=by
    intro i h1 h2
    rw [List.getElem_set]
    split
    ·rename_i he
     rw [e1,Int.toNat_natCast] at he
     subst he
     rw [e1,Int.toNat_natCast,hV hn]
     exact⟨rfl,rfl⟩
    exact⟨rfl,rfl⟩
   refine⟨⟨h.side,h.state,h.pol,h.own.pt (by simp) hp,h.far,h.halfs,h.bucket,h.out,h.inp,h.done.pt fun a ha=>?_,h.over,h.subs8,h.nums,h.subs⟩,hst⟩
   obtain⟨j,hj,rfl⟩:=List.getElem_of_mem ha
   have hj':=hj
   rw [List.length_set] at hj'
   exact⟨e.own[j],List.getElem_mem hj',(hp j hj hj').1.symm⟩
  exact⟨h,hst⟩
 ·unfold bE;dsimp only;split
  ·rename_i hk
   simp only [mJ,Bool.and_eq_true,decide_eq_true_eq] at hk
   obtain⟨n,e1,hn,e2⟩:=EW hk.2
   refine⟨⟨h.side,h.state,h.pol,h.own,h.far.drop,h.halfs,h.bucket,h.out,h.inp,h.done,h.over.drop h.far ⟨_,List.getElem_mem hn,e2⟩,by dsimp only;rw [List.length_map];exact h.subs8,h.nums,h.subs.map fun s hs=>?_⟩,hst⟩
   rw [jP];split
   ·exact⟨(h.subs.el s hs).st (by omega),rfl,fun _=>rfl⟩
   exact⟨h.subs.el s hs,rfl,fun h=>h⟩
  exact⟨h,hst⟩
 ·unfold bF;split
  ·refine⟨⟨h.side,h.state,h.pol,h.own,h.far,h.halfs,h.bucket,h.out,?_,h.done,h.over,h.subs8,h.nums,h.subs⟩,hst⟩
   dsimp only
   rw [rX]
   rcases rW e.inp x.pos x.text with hp|hp
   ·rw [hp];exact h.inp
   exact hp
  exact⟨h,hst⟩
 ·unfold bA;dsimp only;split
  ·rename_i hk
   obtain⟨n,_,_,hn,_,_,_,hl⟩:=Hh hk
   obtain⟨_,_,_,_,_,_,_,_,hp⟩:=v2 hl
   exact⟨⟨h.side,h.state,h.pol,h.own,h.far,h.halfs,h.bucket,HY h.out hp,h.inp,h.done,h.over,h.subs8,h.nums,h.subs⟩,hst⟩
  exact⟨h,hst⟩
 unfold bf;dsimp only;split
 ·rename_i hk
  obtain⟨n,_,e1,hn,_⟩:=Hh hk
  refine⟨⟨h.side,h.state,h.pol,h.own,h.far,h.halfs,h.bucket,h.out,h.inp,h.done,h.over,by dsimp only;rw [bP,List.length_set];exact h.subs8,h.nums,?_⟩,hst⟩
  dsimp only
  rw [e1,Int.toNat_natCast]
  exact h.subs.st4 hn
 exact⟨h,hst⟩
theorem Gt {o:OutD} (F:FineO o):((cy o).length:Int)<=o.base+(o.text.length:Int) - o.sent:=by
 have:=F.sent
 simp only [cy,List.length_take,List.length_drop]
 omega
theorem GN {o:OutD} (h:outOk o=true):outOk (qg o)=true:=by
 rw [qg];split
 ·have F:=gp h
  have hl:=Gt F
  obtain⟨h1,h2,h3,h4,h5⟩:=F
  rw [u3]
  exact⟨h1,h2,h3,by dsimp only;omega⟩
 exact h
theorem HJ {n:Int} (h:N9 n):N9 (i8 n):=by
 simp only [N9] at h⊢
 rw [i8];split<;>omega
theorem F8 {e:EndD} (h:OkE e):OkE (cL e).1:=by
 unfold cL;split
 ·exact⟨h.side,h.state,h.pol,h.own,h.far,h.halfs,h.bucket,GN h.out,h.inp,h.done,h.over,h.subs8,⟨h.nums.1,h.nums.2.1,h.nums.2.2.1,h.nums.2.2.2.1,HJ h.nums.2.2.2.2⟩,h.subs⟩
 exact h
theorem v3 {e:EndD}:(cL e).1.state=e.state:=by unfold cL;split<;>rfl
theorem Fs:∀ {k:Nat} {e:EndD},OkE e->OkE (cu k e).1/\(cu k e).1.state=e.state
 |0,e,h=>⟨h,rfl⟩
 |k+1,e,h=>by
  obtain⟨h1,h2⟩:=Fs (k:=k) (F8 h)
  exact⟨h1,h2.trans v3⟩
theorem Hj {o:OutD} {t:List UInt8} (h:outOk o=true):outOk (eL o t).1=true:=by
 rw [eL];split
 ·obtain⟨h1,h2,h3,h4,h5⟩:=gp h
  rw [u3]
  refine⟨h1,h2,?_,?_⟩
  ·simp only [List.length_append,List.length_take,i9];omega
  simp only [List.length_append,List.length_take,i9];omega
 exact h
theorem Ft {e:EndD} {t:List UInt8} (h:OkE e):OkE (cc e t).1/\(cc e t).1.state=e.state:=by
 unfold cc;split
 ·exact⟨⟨h.side,h.state,h.pol,h.own,h.far,h.halfs,h.bucket,Hj h.out,h.inp,h.done,h.over,h.subs8,h.nums,h.subs⟩,rfl⟩
 exact⟨h,rfl⟩
theorem HZ {p:PiecesD} {m:Int} (h:piecesOk p=true) (hs:SmallP p):piecesOk (bK p m).1=true:=by
 rw [bK];split
 ·rename_i hk
  simp only [sg,Bool.and_eq_true,decide_eq_true_eq] at hk
  have F:=dt h hs
  have hr:=F.ready
  have hr0:=F.r0
  have hn:=F.next
  have hN:w9 p m<=p.ready.length:=Nat.min_le_right _ _
  simp only [piecesOk,gA,Bool.and_eq_true,decide_eq_true_eq] at h⊢
  obtain⟨⟨⟨⟨a1,a2⟩,a3⟩,a4⟩,a5⟩:=h
  have hle:=vy (M:=200) fun x hx=>(F.texts x hx).1
  have hm:p.list.length*200<=20*200:=Nat.mul_le_mul_right _ F.list
  refine⟨⟨⟨⟨by omega,by omega⟩,a3⟩,?_⟩,?_⟩
  ·rw [mt,mM (by omega) (by omega)] at a4
   show fD ((p.ready.drop (w9 p m)).length:Int) p.list<=200
   rw [mM (by omega) (by rw [List.length_drop];omega),List.length_drop]
   omega
  have e:nextOf ⟨p.read+(w9 p m:Int),p.ready.drop (w9 p m),p.list⟩=nextOf p:=by
   rw [hn,nextOf,ym (by simp only [List.length_drop];omega)]
   simp only [List.length_drop]
   omega
  rw [e];exact a5
 exact h
theorem HK {e:EndD} {m:Int} (h:OkE e) (hs:SmallP e.inp):OkE (bi e m).1/\(bi e m).1.state=e.state:=by
 unfold bi;split
 ·exact⟨⟨h.side,h.state,h.pol,h.own,h.far,h.halfs,h.bucket,h.out,HZ h.inp hs,h.done,h.over,h.subs8,h.nums,h.subs⟩,rfl⟩
 exact⟨h,rfl⟩
theorem GZ {o:OutD} (h:outOk o=true):outOk (fi o)=true:=by
 rw [fi,if_pos h]
 obtain⟨h1,h2,h3,h4,h5⟩:=gp h
 rw [u3]
 exact⟨h1,h2,h3,by dsimp only;omega⟩
theorem Fu {e:EndD} {l:List LetterD} (h:OkE e):OkE (bQ e l).1/\(bQ e l).1.state=e.state:=Fs h
theorem H0 {e:EndD} (h:OkE e):OkE (cQ e).1/\(cQ e).1.state=e.state:=by
 unfold cQ;split
 ·rename_i hk
  simp only [AT,Bool.and_eq_true,decide_eq_true_eq,List.all_eq_true] at hk
  have h0:∀ s:List SubD,s.length<=8->SuOk s->OkE { eR e with subs:=s }:=fun s h8 hs=>
   ⟨h.side,h.state,h.pol,h.own,h.far,h.halfs.young,FO h.bucket,GZ h.out,h.inp,h.done,h.over,h8,⟨h.nums.1,h.nums.2.1,h.nums.2.2.1,by have:=h.nums.2.2.2.1;simp only [N9,eR] at this⊢;omega,h.nums.2.2.2.2⟩,hs⟩
  split
  ·refine Fu (h0 _ (by rw [List.length_map];exact h.subs8) (h.subs.map fun s hs=>?_))
   have hel:=h.subs.el s hs
   have ht:=hk.2 s hs
   have hN:N9 (s.tries+1):=by have:=hel.2.2.2.2.2.2;simp only [N9] at this⊢;omega
   rw [cW];split
   ·rename_i hc
    split
    ·exact⟨⟨by simp,hel.2.1,hel.2.2.1,hel.2.2.2.1,hel.2.2.2.2.1,hel.2.2.2.2.2.1,hN⟩,rfl,fun _=>rfl⟩
    exact⟨⟨hel.1,hel.2.1,hel.2.2.1,hel.2.2.2.1,hel.2.2.2.2.1,hel.2.2.2.2.2.1,hN⟩,rfl,fun h=>h⟩
   exact⟨hel,rfl,fun h=>h⟩
  exact Fu (h0 e.subs h.subs8 h.subs)
 exact⟨h,rfl⟩
theorem G0 {e:EndD} {r:RoadD} {b:Bool} (h:OkE e):OkE (dz e r b).1/\(dz e r b).1.state=e.state:=by
 unfold dz;split
 ·rename_i hk
  simp only [w_,Bool.and_eq_true,decide_eq_true_eq,vP,u0] at hk
  obtain⟨⟨⟨⟨⟨⟨⟨k1,k2⟩,k3⟩,k4⟩,k5⟩,k6⟩,k7⟩,k8⟩:=hk
  refine⟨⟨h.side,h.state,h.pol,h.own,h.far,h.halfs,h.bucket,h.out,h.inp,h.done,h.over,by simp only [List.length_append,List.length_singleton];omega,⟨h.nums.1,h.nums.2.1,⟨by dsimp only;omega,by dsimp only;omega⟩,h.nums.2.2.2⟩,?_⟩,rfl⟩
  refine h.subs.app ⟨by simp [eN],k3,?_,?_,?_,?_,?_⟩ fun x hx=>FN.1 k4 x hx
  all_goals simp only [eN,N9];omega
 exact⟨h,rfl⟩
theorem Gu {far:List AddrD}:∀ {l:List RoadD} {e:EndD},OkE e->OkE (dS far e l).1/\(dS far e l).1.state=e.state
 |[],e,h=>⟨h,rfl⟩
 |r::l,e,h=>by
  obtain⟨h1,h2⟩:=G0 (r:=r) (b:=aZ far r.far) h
  obtain⟨h3,h4⟩:=Gu (far:=far) (l:=l) h1
  exact⟨h3,h4.trans h2⟩
theorem G1 {e:EndD} {a:ActD} (h:OkE e) (hs:SmallP e.inp):OkE (ie e a).1/\(ie e a).1.state=e.state:=by
 unfold ie
 split
 ·obtain⟨h1,h2⟩:=Ft (t:=a.text) h
  obtain⟨h3,h4⟩:=Fs (k:=3) h1
  exact⟨h3,h4.trans h2⟩
 split
 ·exact HK h hs
 split
 ·exact H0 h
 split
 ·unfold bb;split
  ·exact Gu h
  exact⟨h,rfl⟩
 split
 ·unfold az;split
  ·rename_i hk
   simp only [AR,Bool.and_eq_true,Bool.not_eq_true',HI] at hk
   exact⟨⟨h.side,h.state,h.pol,h.own.put,h.far,h.halfs,h.bucket,h.out,h.inp,h.done.put hk.2,h.over,h.subs8,h.nums,h.subs⟩,rfl⟩
  exact⟨h,rfl⟩
 split
 ·unfold iA;split
  ·rename_i hk
   simp only [Du,Bool.and_eq_true,decide_eq_true_eq] at hk
   obtain⟨n,e1,hn,e2⟩:=EW hk.2
   refine⟨⟨h.side,h.state,h.pol,h.own.drop,h.far,h.halfs,h.bucket,h.out,h.inp,h.done.drop h.own ⟨_,List.getElem_mem hn,e2⟩,h.over,by dsimp only;rw [ic,List.length_map];exact h.subs8,h.nums,h.subs.map fun s hs=>?_⟩,rfl⟩
   rw [Dt];split
   ·exact⟨(h.subs.el s hs).st (by omega),rfl,fun _=>rfl⟩
   exact⟨h.subs.el s hs,rfl,fun h=>h⟩
  exact⟨h,rfl⟩
 unfold ks;split
 ·rename_i hk
  simp only [EE,Bool.and_eq_true,decide_eq_true_eq,vP] at hk
  obtain⟨n,hn⟩:=Int.eq_ofNat_of_zero_le hk.1.2.1
  refine⟨⟨h.side,h.state,h.pol,h.own,h.far,h.halfs,h.bucket,h.out,h.inp,h.done,h.over,by dsimp only;rw [bP,List.length_set];exact h.subs8,h.nums,?_⟩,rfl⟩
  dsimp only
  rw [hn,Int.toNat_natCast]
  exact h.subs.st4 (by omega)
 exact⟨h,rfl⟩
structure Inv (w:WorldD):Prop where
 c:Core w
 bag:∀ x∈w.bag,LetI w x
 past:∀ x∈w.past,LetI w x
theorem Gv {l:List SubD} (h:l.Pairwise fun s t=>¬ s.take=t.take) {s t:SubD} (hs:s∈l) (ht:t∈l) (e:s.take=t.take):s=t:=by
 obtain⟨i,hi,rfl⟩:=List.getElem_of_mem hs
 obtain⟨j,hj,rfl⟩:=List.getElem_of_mem ht
 rw [List.pairwise_iff_getElem] at h
 rcases Nat.lt_trichotomy i j with hl|hl|hl
 ·exact absurd e (h i j hi hj hl)
 ·subst hl;rfl
 exact absurd e.symm (h j i hj hi hl)
theorem Fv {l:List Int} {n m:Int} (h:m∈cP l n):m=n/\0 < n\/m∈l:=by
 rw [cP] at h;split at h
 ·rename_i hc
  rcases List.mem_append.1 h with h|h
  ·exact .inr h
  exact .inl ⟨List.mem_singleton.1 h,hc.1⟩
 exact .inr h
theorem sp {l:List Int} {n m:Int} (h:m∈l):m∈cP l n:=by
 rw [cP];split
 ·exact List.mem_append_left _ h
 exact h
theorem Hk {w:WorldD} {x:LetterD} (h:sideAt x.to=0):LetI w x:=by
 constructor<;>(intro h1;omega)
theorem Post.let {w:WorldD} {x:LetterD} (h:Post w x):LetI w x:=h.some.elim Hk id
theorem E8 {w w':WorldD} (ha:w'.a=w.a) (hb:w'.b=w.b) (hn:∀ n∈w.nums,n∈w'.nums) (h1:w'.wroteA=w.wroteA) (h2:w'.wroteB=w.wroteB):Le w w':=by
 refine⟨by rw [ha],by rw [hb],hn,fun s hs=>⟨s,by rw [ha];exact hs,SubTo.refl s⟩,fun t ht=>⟨t,by rw [hb];exact ht,rfl⟩,by rw [hb];exact Int.le_refl _,fun h hh=>.inr ⟨h,by rw [hb] at hh;exact hh,rfl,rfl,rfl,rfl⟩,fun i d h=>by rw [ha];exact h,fun i d h=>by rw [hb];exact h,⟨[],by rw [h1,List.append_nil]⟩,⟨[],by rw [h2,List.append_nil]⟩⟩
theorem GO {k:KnownD} {t u:TagD} (h:u∈(ez k t).tags):u=t\/u∈k.tags:=by
 rw [ez] at h;split at h
 ·rcases List.mem_append.1 h with h|h
  ·exact .inr h
  exact .inl (List.mem_singleton.1 h)
 exact .inr h
theorem Fw {w:WorldD} {side:Int} {x:LetterD} (h:Core w):Core (mU side w x):=⟨h.oka,h.okb,h.sta,h.stb,h.sia,h.sib,h.ka,h.kb,h.kk,h.pa,h.pb,h.keys,h.tags,h.da,h.db,h.nn,h.sa,h.sad,h.sb,h.ha,h.hb,h.hbd,h.oa,h.ob,h.fa,h.fb,h.oia,h.oib,h.iia,h.iib⟩
theorem Gw {w:WorldD} {l:List LetterD} (h:Core w):Core { w with bag:=l }:=⟨h.oka,h.okb,h.sta,h.stb,h.sia,h.sib,h.ka,h.kb,h.kk,h.pa,h.pb,h.keys,h.tags,h.da,h.db,h.nn,h.sa,h.sad,h.sb,h.ha,h.hb,h.hbd,h.oa,h.ob,h.fa,h.fb,h.oia,h.oib,h.iia,h.iib⟩
theorem GP {w:WorldD} {x:LetterD} (h:Core w) (F:Free w x):Core (vH w x):=by
 have hn:∀ n∈(vH w x).nums,n=x.nonce\/n=x.give\/n∈w.nums:=by
  intro n hm
  rcases Fv hm with⟨_,h0⟩|hm
  ·rw [F.sgn] at h0;omega
  rcases Fv hm with⟨e,_⟩|hm
  ·exact .inr (.inl e)
  rcases Fv hm with⟨e,_⟩|hm
  ·exact .inl e
  exact .inr (.inr hm)
 have ho:∀ n∈w.nums,n∈(vH w x).nums:=fun n hm=>sp (sp (sp hm))
 refine⟨h.oka,h.okb,h.sta,h.stb,h.sia,h.sib,h.ka,h.kb,h.kk,h.pa,h.pb,?_,?_,h.da,h.db,?_,?_,h.sad,?_,?_,?_,h.hbd,h.oa,h.ob,h.fa,h.fb,h.oia,h.oib,h.iia,h.iib⟩
 ·rw [vH,i4];exact h.keys
 ·intro u hu
  rcases GO hu with rfl|hu
  ·exact⟨F.kind,F.th.mono ho⟩
  exact⟨(h.tags u hu).1,(h.tags u hu).2.mono ho⟩
 ·intro n hm
  rcases hn n hm with e|e|e
  ·exact F.nn n (.inl e)
  ·exact F.nn n (.inr e)
  exact h.nn n e
 ·intro s hs
  have S:=h.sa s hs
  obtain⟨f1,f2,f3⟩:=F.sa s hs
  refine⟨S.t4,fun hc=>?_,?_,S.own,S.far,S.th,S.on,S.ask⟩
  ·rcases hn _ hc with e|e|e
   ·exact f2 e
   ·exact f1 e
   exact S.tn e
  rcases S.mine with m|⟨m1,m2⟩
  ·exact .inl m
  rcases f3 with f3|⟨f3,f4⟩
  ·exact .inl f3
  refine .inr ⟨m1,fun hc=>?_⟩
  rcases hn _ hc with e|e|e
  ·exact f3 e
  ·exact f4 e
  exact m2 e
 ·intro t ht
  have S:=h.sb t ht
  obtain⟨f1,f2⟩:=F.sb t ht
  refine⟨S.t4,fun hc=>?_,S.st,S.like⟩
  rcases hn _ hc with e|e|e
  ·exact f2 e
  ·exact f1 e
  exact S.tn e
 ·intro k hk
  have S:=h.ha k hk
  exact⟨S.m4,S.sep,S.th.mono ho⟩
 intro k hk
 have S:=h.hb k hk
 refine⟨S.m4,S.sep,?_⟩
 rcases S.th with q|⟨q1,q2⟩
 ·exact .inl (q.mono ho)
 by_cases hf:k.take=x.give\/k.take=x.nonce
 ·exact .inl ((F.hb k hk hf).mono ho)
 refine .inr ⟨fun hc=>?_,q2⟩
 rcases hn _ hc with e|e|e
 ·exact hf (.inr e)
 ·exact hf (.inl e)
 exact q1 e
theorem Hl {w:WorldD} {side:Int} {x:LetterD} (h:Inv w) (P:Post w x):Inv (cn side w x)/\Le w (cn side w x)/\(cn side w x).a=w.a/\(cn side w x).b=w.b:=by
 obtain⟨e1,e2,e3,e4,_,_⟩:=gm (side:=side) (w:=w) (x:=x)
 have hpast:∀ y∈mS w.past x,y=x\/y∈w.past:=by
  intro y hy
  rw [mS] at hy;split at hy
  ·rcases List.mem_append.1 hy with hy|hy
   ·exact .inr hy
   exact .inl (List.mem_singleton.1 hy)
  exact .inr hy
 have hbag:∀ y∈ut w.bag x,y=x\/y∈w.bag:=by
  intro y hy
  rw [ut] at hy;split at hy
  ·rcases List.mem_append.1 hy with hy|hy
   ·exact .inr hy
   exact .inl (List.mem_singleton.1 hy)
  exact .inr hy
 have hL:=P.let
 by_cases h0:sideAt x.to=0
 ·have hl:Le w (cn side w x):=E8 e1 e2 (by rw [cn,if_pos h0];exact fun n hm=>sp (sp (sp hm))) e3 e4
  refine⟨?_,hl,e1,e2⟩
  have hc:=GP (w:=mU side w x) (x:=x) (Fw h.c) ⟨(P.none h0).kind,(P.none h0).th,(P.none h0).sgn,(P.none h0).sa,(P.none h0).sb,(P.none h0).hb,(P.none h0).pos,(P.none h0).nn⟩
  refine⟨by rw [cn,if_pos h0];exact hc,fun y hy=>?_,fun y hy=>?_⟩
  ·rw [cn,if_pos h0] at hy
   exact (h.bag y hy).mono hl
  rw [cn,if_pos h0] at hy
  rcases hpast y hy with rfl|hy
  ·exact hL.mono hl
  exact (h.past y hy).mono hl
 have hl:Le w (cn side w x):=E8 e1 e2 (by rw [cn,if_neg h0];exact fun n hm=>hm) e3 e4
 refine⟨?_,hl,e1,e2⟩
 refine⟨by rw [cn,if_neg h0];exact Gw (Fw h.c),fun y hy=>?_,fun y hy=>?_⟩
 ·rw [cn,if_neg h0] at hy
  rcases hbag y hy with rfl|hy
  ·exact hL.mono hl
  exact (h.bag y hy).mono hl
 rw [cn,if_neg h0] at hy
 rcases hpast y hy with rfl|hy
 ·exact hL.mono hl
 exact (h.past y hy).mono hl
theorem FP {side:Int}:∀ {l:List LetterD} {w:WorldD},Inv w->(∀ x∈l,Post w x)->Inv (an side w l)
 |[],w,h,_=>h
 |x::l,w,h,P=>by
  obtain⟨h1,h2,h3,h4⟩:=Hl (side:=side) h (P x (by simp))
  exact FP (l:=l) h1 fun y hy=>(P y (by simp [hy])).mono h2 h3 h4
theorem PutA.core {w w':WorldD} (P:PutA w w') (C:Core w):Core w':=by
 refine⟨P.ok,by rw [P.hb];exact C.okb,P.st,by rw [P.hb];exact C.stb,P.sd,by rw [P.hb];exact C.sib,by rw [P.ky];exact C.ka,by rw [P.hb];exact C.kb,by rw [P.ky,P.hb];exact C.kk,by rw [P.pe,P.hb];exact C.pa,by rw [P.hb,P.ky];exact C.pb,by rw [P.known];exact C.keys,by rw [P.known,P.nums];exact C.tags,⟨P.dr.1,by have:=C.da.2;have:=P.dr.2;omega⟩,by rw [P.hb];exact C.db,?_,by rw [P.nums,P.hb];exact P.sa,P.sad,?_,by rw [P.nums];exact P.ha,?_,by rw [P.hb];exact C.hbd,P.oa,by rw [P.hb];exact C.ob,by rw [P.hb];exact P.fa,?_,P.oia,by rw [P.wroteB,P.hb];exact C.oib,by rw [P.wroteB];exact P.iia,?_⟩
 ·rw [P.nums,P.hb]
  intro n hn
  have:=C.nn n hn
  have hd:=P.dr.2
  exact⟨fun h=>by have:=this.1 h;omega,this.2⟩
 ·rw [P.nums,P.hb]
  intro t ht
  have S:=C.sb t ht
  obtain⟨s,h1,h2,h3,h4,h5⟩:=S.like
  obtain⟨s',g1,g2⟩:=P.evo s h1
  obtain⟨r1,r2,r3⟩:=g2.rest h2
  exact⟨S.t4,S.tn,S.st,s',g1,r1,by rw [g2.road];exact h3,by rw [g2.take];exact h4,by rw [r3];exact h5⟩
 ·rw [P.nums,P.hb]
  intro h hh
  have S:=C.hb h hh
  refine⟨S.m4,S.sep,S.th.imp id fun⟨q1,s,h1,h2,h3,h4,h5⟩=>?_⟩
  obtain⟨s',g1,g2⟩:=P.evo s h1
  exact⟨q1,s',g1,by rw [g2.mine];exact h2,by rw [g2.mine];exact h3,by rw [g2.take];exact h4,by rw [g2.road];exact h5⟩
 ·rw [P.hb]
  exact fun f hf=>⟨(C.fb f hf).1,P.tl _ _ (C.fb f hf).2⟩
 rw [P.readB,P.hb]
 obtain⟨t,ht⟩:=P.wroteA
 rw [ht];exact C.iib.app t
theorem PutB.core {w w':WorldD} (P:PutB w w') (C:Core w):Core w':=by
 refine⟨by rw [P.ha];exact C.oka,P.ok,by rw [P.ha];exact C.sta,P.st,by rw [P.ha];exact C.sia,P.sd,by rw [P.ha];exact C.ka,by rw [P.ky];exact C.kb,by rw [P.ky,P.ha];exact C.kk,by rw [P.ha,P.ky];exact C.pa,by rw [P.pe,P.ha];exact C.pb,by rw [P.known];exact C.keys,by rw [P.known,P.nums];exact C.tags,by rw [P.ha];exact C.da,⟨P.dr.1,by have:=C.db.2;have:=P.dr.2;omega⟩,?_,?_,by rw [P.ha];exact C.sad,by rw [P.nums,P.ha];exact P.sb,by rw [P.nums,P.ha];exact C.ha,by rw [P.nums,P.ha];exact P.hb,P.hbd,by rw [P.ha];exact C.oa,P.ob,?_,by rw [P.ha];exact P.fb,by rw [P.wroteA,P.ha];exact C.oia,P.oib,?_,by rw [P.wroteA];exact P.iib⟩
 ·rw [P.nums,P.ha]
  intro n hn
  have:=C.nn n hn
  have hd:=P.dr.2
  exact⟨this.1,fun h=>by have:=this.2 h;omega⟩
 ·rw [P.nums,P.ha]
  intro s hs
  have S:=C.sa s hs
  refine⟨S.t4,S.tn,S.mine,S.own,S.far,⟨Int.lt_of_lt_of_le S.th.1 P.dr.2,fun h hh hm=>?_⟩,fun h3=>?_,S.ask⟩
  ·rcases P.hev h hh with g|⟨k,g1,g2,g3,g4,g5⟩
   ·have:=S.th.1;omega
   obtain⟨q1,q2,q3⟩:=S.th.2 k g1 (by omega)
   exact⟨by rw [<-g3];exact q1,by rw [<-g4];exact q2,by rw [<-g5];exact q3⟩
  obtain⟨t,g1,g2,g3,g4⟩:=S.on h3
  obtain⟨t',k1,k2,k3,k4⟩:=P.evo t g1
  exact⟨t',k1,by rw [k2];exact g2,by rw [k3];exact g3,by rw [k4];exact g4⟩
 ·rw [P.ha]
  exact fun f hf=>⟨(C.fa f hf).1,P.tl _ _ (C.fa f hf).2⟩
 rw [P.readA,P.ha]
 obtain⟨t,ht⟩:=P.wroteB
 rw [ht];exact C.iia.app t
theorem SubsKeep.st4 (l:List SubD) (n:Nat):SubsKeep l (bP l n 4):=by
 refine⟨by simp [bP],fun i h1 h2=>?_⟩
 simp only [bP,List.getElem_set]
 split
 ·rename_i e;subst e
  rw [ke h2]
  exact⟨rfl,rfl,rfl,rfl,rfl,.inr rfl⟩
 exact SubKeep.refl _
attribute [go_sem] List.append_eq
theorem ub (l:List AddrD) (hl:l.length<=4611686018427387904):aP 20 [.sc (.sl 0 0 l.length),.sc (.sl 1 0 l.length)] [some ⟨l.map AddrD.cs,4,103,false,true⟩,some ⟨l.map AddrD.cs,4,103,false,true⟩] (.sc (.bo true)) [some ⟨l.map AddrD.cs,4,103,false,true⟩,some ⟨l.map AddrD.cs,4,103,false,true⟩]:=by
 refine qE Tryz.func20 Tryz.ntmps20 Tryz.results20 fun E hE=>?_
 refine jx 2 hE (fun s (k:Nat)=>s.at (qU [4,1,6,20]) [(5,.sc (.int .i64 (k:Nat)))] (s.hp)) (fun (k:Nat)=>k<=l.length) (fun (k:Nat)=>l.length - k) 0 (qI 0 2) (Nat.zero_le _) fun k hk N hN=>?_
 refine qR ?_
 refine qB (fun h=>?_) fun h=>?_
 ·refine qD [0,1,2,3,4,5,6,7,8] ?_
  refine qG ?_
  exact qN hN (k+1) (qI 0 2) (by (try dsimp only);exact h)
 exact qF (qI 0 2)
theorem FJ (l:List SubD) (hl:l.length<=4611686018427387904):aP 138 [.sc (.sl 0 0 l.length),.sc (.sl 1 0 l.length)] [some ⟨l.map SubD.cs,10,101,false,true⟩,some ⟨l.map SubD.cs,10,101,false,true⟩] (.sc (.bo true)) [some ⟨l.map SubD.cs,10,101,false,true⟩,some ⟨l.map SubD.cs,10,101,false,true⟩]:=by
 refine qE Tryz.func138 Tryz.ntmps138 Tryz.results138 fun E hE=>?_
 refine jx 2 hE (fun s (k:Nat)=>s.at (qU [4,1,6,20]) [(5,.sc (.int .i64 (k:Nat)))] (s.hp)) (fun (k:Nat)=>k<=l.length) (fun (k:Nat)=>l.length - k) 0 (qI 0 2) (Nat.zero_le _) fun k hk N hN=>?_
 refine qR ?_
 refine qB (fun h=>?_) fun h=>?_
 ·refine qD [0,1,2,3,4,5,6,7,8] ?_
  refine qG ?_
  exact qN hN (k+1) (qI 0 2) (by (try dsimp only);exact h)
 exact qF (qI 0 2)
theorem FA (l:List HalfD) (hl:l.length<=4611686018427387904):aP 139 [.sc (.sl 0 0 l.length),.sc (.sl 1 0 l.length)] [some ⟨l.map HalfD.cs,8,121,false,true⟩,some ⟨l.map HalfD.cs,8,121,false,true⟩] (.sc (.bo true)) [some ⟨l.map HalfD.cs,8,121,false,true⟩,some ⟨l.map HalfD.cs,8,121,false,true⟩]:=by
 refine qE Tryz.func139 Tryz.ntmps139 Tryz.results139 fun E hE=>?_
 refine jx 2 hE (fun s (k:Nat)=>s.at (qU [4,1,6,20]) [(5,.sc (.int .i64 (k:Nat)))] (s.hp)) (fun (k:Nat)=>k<=l.length) (fun (k:Nat)=>l.length - k) 0 (qI 0 2) (Nat.zero_le _) fun k hk N hN=>?_
 refine qR ?_
 refine qB (fun h=>?_) fun h=>?_
 ·refine qD [0,1,2,3,4,5,6,7,8] ?_
  refine qG ?_
  exact qN hN (k+1) (qI 0 2) (by (try dsimp only);exact h)
 exact qF (qI 0 2)
theorem v5 (l:List PieceD) (hl:l.length<=4611686018427387904):aP 77 [.sc (.sl 0 0 l.length),.sc (.sl 1 0 l.length)] [some ⟨l.map PieceD.cs,2,150,false,true⟩,some ⟨l.map PieceD.cs,2,150,false,true⟩] (.sc (.bo true)) [some ⟨l.map PieceD.cs,2,150,false,true⟩,some ⟨l.map PieceD.cs,2,150,false,true⟩]:=by
 refine qE Tryz.func77 Tryz.ntmps77 Tryz.results77 fun E hE=>?_
 refine jx 2 hE (fun s (k:Nat)=>s.at (qU [4,1,6,20]) [(5,.sc (.int .i64 (k:Nat)))] (s.hp)) (fun (k:Nat)=>k<=l.length) (fun (k:Nat)=>l.length - k) 0 (qI 0 2) (Nat.zero_le _) fun k hk N hN=>?_
 refine qR ?_
 refine qB (fun h=>?_) fun h=>?_
 ·refine qD [0,1,2,3,4,5,6,7,8] ?_
  refine qG ?_
  exact qN hN (k+1) (qI 0 2) (by (try dsimp only);exact h)
 exact qF (qI 0 2)
theorem sz (l:List LetterD) (hl:l.length<=4611686018427387904):aP 70 [.sc (.sl 0 0 l.length),.sc (.sl 1 0 l.length)] [some ⟨l.map LetterD.cs,19,48,false,true⟩,some ⟨l.map LetterD.cs,19,48,false,true⟩] (.sc (.bo true)) [some ⟨l.map LetterD.cs,19,48,false,true⟩,some ⟨l.map LetterD.cs,19,48,false,true⟩]:=by
 refine qE Tryz.func70 Tryz.ntmps70 Tryz.results70 fun E hE=>?_
 refine jx 2 hE (fun s (k:Nat)=>s.at (qU [4,1,6,20]) [(5,.sc (.int .i64 (k:Nat)))] (s.hp)) (fun (k:Nat)=>k<=l.length) (fun (k:Nat)=>l.length - k) 0 (qI 0 2) (Nat.zero_le _) fun k hk N hN=>?_
 refine qR ?_
 refine qB (fun h=>?_) fun h=>?_
 ·refine qD [0,1,2,3,4,5,6,7,8] ?_
  refine qG ?_
  exact qN hN (k+1) (qI 0 2) (by (try dsimp only);exact h)
 exact qF (qI 0 2)
theorem FK (l:List TagD) (hl:l.length<=4611686018427387904):aP 140 [.sc (.sl 0 0 l.length),.sc (.sl 1 0 l.length)] [some ⟨l.map TagD.cs,5,46,false,true⟩,some ⟨l.map TagD.cs,5,46,false,true⟩] (.sc (.bo true)) [some ⟨l.map TagD.cs,5,46,false,true⟩,some ⟨l.map TagD.cs,5,46,false,true⟩]:=by
 refine qE Tryz.func140 Tryz.ntmps140 Tryz.results140 fun E hE=>?_
 refine jx 2 hE (fun s (k:Nat)=>s.at (qU [4,1,6,20]) [(5,.sc (.int .i64 (k:Nat)))] (s.hp)) (fun (k:Nat)=>k<=l.length) (fun (k:Nat)=>l.length - k) 0 (qI 0 2) (Nat.zero_le _) fun k hk N hN=>?_
 refine qR ?_
 refine qB (fun h=>?_) fun h=>?_
 ·refine qD [0,1,2,3,4,5,6,7,8] ?_
  refine qG ?_
  exact qN hN (k+1) (qI 0 2) (by (try dsimp only);exact h)
 exact qF (qI 0 2)
theorem ft (l:List Int) (hl:l.length<=4611686018427387904):aP 17 [.sc (.sl 0 0 l.length),.sc (.sl 1 0 l.length)] [some ⟨l.map aM,1,3,false,true⟩,some ⟨l.map aM,1,3,false,true⟩] (.sc (.bo true)) [some ⟨l.map aM,1,3,false,true⟩,some ⟨l.map aM,1,3,false,true⟩]:=by
 refine qE Tryz.func17 Tryz.ntmps17 Tryz.results17 fun E hE=>?_
 refine jx 2 hE (fun s (k:Nat)=>s.at (qU [4,1,6,20]) [(5,.sc (.int .i64 (k:Nat)))] (s.hp)) (fun (k:Nat)=>k<=l.length) (fun (k:Nat)=>l.length - k) 0 (qI 0 2) (Nat.zero_le _) fun k hk N hN=>?_
 refine qR ?_
 refine qB (fun h=>?_) fun h=>?_
 ·refine qD [0,1,2,3,4,5,6,7,8] ?_
  refine qG ?_
  exact qN hN (k+1) (qI 0 2) (by (try dsimp only);exact h)
 exact qF (qI 0 2)
theorem E7 (x:PiecesD) (hl:x.list.length<=4611686018427387904):aP 21 [.ag (x.cs 0),.ag (x.cs 1)] (x.hp false++x.hp false) (.sc (.bo true)) (x.hp false++x.hp false):=by
 refine qE Tryz.func21 Tryz.ntmps21 Tryz.results21 fun E hE=>?_
 refine qK (v5 x.list hl) (qI 0 2) ?_
 exact qF (qI 0 2)
theorem Gc (e:EndD) (h0:e.own.length<=1048576) (h1:e.far.length<=1048576) (h2:e.subs.length<=1048576) (h3:e.halfs.length<=1048576) (h4:e.inp.list.length<=1048576) (h5:e.done.length<=1048576) (h6:e.over.length<=1048576):aP 69 [.ag (e.cs 0),.ag (e.cs 7)] (e.hp false++e.hp false) (.sc (.bo true)) (e.hp false++e.hp false):=by
 refine qE Tryz.func69 Tryz.ntmps69 Tryz.results69 fun E hE=>?_
 refine qK (ub e.own (by omega)) (qI 0 1++qI 7 1) ?_
 refine qK (ub e.far (by omega)) (qI 1 1++qI 8 1) ?_
 refine qK (FJ e.subs (by omega)) (qI 2 1++qI 9 1) ?_
 refine qK (FA e.halfs (by omega)) (qI 3 1++qI 10 1) ?_
 refine qK (E7 e.inp (by omega)) (qI 4 1++qI 11 1) ?_
 refine qK (ft e.done (by omega)) (qI 5 1++qI 12 1) ?_
 refine qK (ft e.over (by omega)) (qI 6 1++qI 13 1) ?_
 exact qF (qI 0 14)
theorem FB (x:KnownD) (h0:x.keys.length<=1048576) (h1:x.tags.length<=1048576):aP 71 [.ag (x.cs 0),.ag (x.cs 2)] (x.hp false++x.hp false) (.sc (.bo true)) (x.hp false++x.hp false):=by
 refine qE Tryz.func71 Tryz.ntmps71 Tryz.results71 fun E hE=>?_
 refine qK (ft x.keys (by omega)) (qI 0 1++qI 2 1) ?_
 refine qK (FK x.tags (by omega)) (qI 1 1++qI 3 1) ?_
 exact qF (qI 0 4)
theorem H9 (e:EndD) (h:Small e):aP 69 [.ag (e.cs 0),.ag (e.cs 7)] (e.hp false++e.hp false) (.sc (.bo true)) (e.hp false++e.hp false):=Gc e h.own h.far h.subs h.halfs h.list h.done h.over
theorem FC (w:WorldD) (h:SmallW w):aP 15 [.ag (w.cs 0),.ag (w.cs 21)] (w.hp false++w.hp false) (.sc (.bo true)) (w.hp false++w.hp false):=by
 have h1:=h.bag
 have h2:=h.past
 have h3:=h.keys
 have h4:=h.tags
 have h5:=h.nums
 have h6:=h.ansA
 have h7:=h.ansB
 refine qE Tryz.func15 Tryz.ntmps15 Tryz.results15 fun E hE=>?_
 refine qK (H9 w.a h.a) (qI 0 7++qI 21 7) ?_
 refine qK (H9 w.b h.b) (qI 7 7++qI 28 7) ?_
 refine qK (sz w.bag (by omega)) (qI 14 1++qI 35 1) ?_
 refine qK (sz w.past (by omega)) (qI 15 1++qI 36 1) ?_
 refine qK (FB w.known (by omega) (by omega)) (qI 16 2++qI 37 2) ?_
 refine qK (ft w.nums (by omega)) (qI 18 1++qI 39 1) ?_
 refine qK (ft w.answersA (by omega)) (qI 19 1++qI 40 1) ?_
 refine qK (ft w.answersB (by omega)) (qI 20 1++qI 41 1) ?_
 exact qF (qI 0 42)
end
section
open Go
def un (R:Nat) (g:Nat):Nat:=(R >>> (10*g)) % 1024
def H_ (P:Program) (R lo hi:Nat) (g:Nat):Bool:=
 match P.funcs[g]? with
 |none=>true
 |some fn=>((P.leadsTo fn).all fun h=>Nat.blt (un R h) (un R g) && (Nat.ble lo h && Nat.blt h hi)) && (!(fn.ours || fn.body.isNone || fn.name == "runtime.NumGoroutine") && (match fn.body with|some c=> !c.unfollowed && c.globalsNamed.isEmpty|none=>false))
def E9 (P:Program) (R lo hi:Nat) (g:Nat):Bool:=Nat.ble 1000 (un R g) || H_ P R lo hi g
theorem xs {P:Program} {R lo hi g:Nat} (h:E9 P R lo hi g=true) (hr:un R g < 1000):H_ P R lo hi g=true:=by
 unfold E9 at h
 rw [Bool.or_eq_true,Nat.ble_eq] at h
 exact h.resolve_left (by omega)
theorem GD {P:Program} {R lo hi:Nat} (h:∀ g,lo<=g/\g < hi->E9 P R lo hi g=true) {g k:FuncId} (hb:lo<=g/\g < hi) (hr:un R g < 1000) (hk:k∈(P.funcs[g]?).elim [] P.leadsTo):un R k < un R g/\lo<=k/\k < hi:=by
 have hg:=xs (h g hb) hr
 unfold H_ at hg
 cases hf:P.funcs[g]? with
 |none=>rw [hf] at hk;simp at hk
 |some fn=>
  rw [hf] at hg hk
  simp only [Bool.and_eq_true,List.all_eq_true,Nat.blt_eq,Nat.ble_eq] at hg
  exact hg.1 k hk
theorem GE {P:Program} {R lo hi:Nat} (h:∀ g,lo<=g/\g < hi->E9 P R lo hi g=true) (f:FuncId) (hf0:(lo<=f/\f < hi)/\un R f < 1000):P.inPlace f=[]/\P.unfollowed f=false/\P.recurses f=false/\P.varsNamed f=[]:=by
 have hin:∀ k,(lo<=k/\k < hi)/\un R k < 1000->∀ x∈P.closure k,(lo<=x/\x < hi)/\un R x < 1000:=fun k hk=>Bo (S:=fun x=>(lo<=x/\x < hi)/\un R x < 1000) (fun a ha b hb=>⟨(GD h ha.1 ha.2 hb).2,Nat.lt_trans (GD h ha.1 ha.2 hb).1 ha.2⟩) hk
 have hu:P.unfollowed f=false:=by
  unfold Program.unfollowed
  rw [List.any_eq_false]
  intro g hgc
  have hg:=xs (h g (hin f hf0 g hgc).1) (hin f hf0 g hgc).2
  unfold H_ at hg
  cases hf:P.funcs[g]? with
  |none=>simp
  |some fn=>
   rw [hf] at hg
   simp only [Bool.and_eq_true] at hg
   simp only [Option.any_some]
   cases hb:fn.body with
   |none=>rw [hb] at hg;simp at hg
   |some c=>rw [hb] at hg;simp at hg⊢;exact hg.2.2.1
 refine⟨?_,hu,?_,?_⟩
 ·unfold Program.inPlace
  rw [List.filterMap_eq_nil_iff]
  intro g hgc
  have hg:=xs (h g (hin f hf0 g hgc).1) (hin f hf0 g hgc).2
  unfold H_ at hg
  cases hf:P.funcs[g]? with
  |none=>rfl
  |some fn=>
   rw [hf] at hg
   simp only [Bool.and_eq_true,Bool.not_eq_true'] at hg
   simp only [Option.bind_some]
   rw [hg.2.1]
   rfl
 ·unfold Program.recurses
  rw [hu,Bool.false_or,List.any_eq_false]
  intro g hgc
  rw [Bool.not_eq_true,List.any_eq_false]
  intro k hk
  rw [Bool.not_eq_true]
  obtain⟨h1,hkb⟩:=GD h (hin f hf0 g hgc).1 (hin f hf0 g hgc).2 hk
  have hkr:un R k < 1000:=Nat.lt_trans h1 (hin f hf0 g hgc).2
  have h2:∀ x∈P.closure k,un R x<=un R k/\lo<=x/\x < hi:=Bo (S:=fun x=>un R x<=un R k/\lo<=x/\x < hi) (fun a ha b hb=>⟨Nat.le_trans (Nat.le_of_lt (GD h ha.2 (by omega) hb).1) ha.1,(GD h ha.2 (by omega) hb).2⟩) ⟨Nat.le_refl _,hkb⟩
  cases hc:(P.closure k).contains g with
  |false=>rfl
  |true=>
   have:=(h2 g (List.contains_iff_mem.1 hc)).1
   omega
 unfold Program.varsNamed
 have e1:((P.closure f).flatMap fun g=>((P.funcs[g]?).bind (·.body)).elim [] Code.globalsNamed)=[]:=by
  rw [List.flatMap_eq_nil_iff]
  intro g hgc
  have hg:=xs (h g (hin f hf0 g hgc).1) (hin f hf0 g hgc).2
  unfold H_ at hg
  cases hf:P.funcs[g]? with
  |none=>rfl
  |some fn=>
   rw [hf] at hg
   simp only [Bool.and_eq_true] at hg
   simp only [Option.bind_some]
   cases hb:fn.body with
   |none=>rfl
   |some c=>rw [hb] at hg;simp at hg⊢;exact hg.2.2.2
 have e2:((P.closure f).filterMap fun g=>(P.funcs[g]?).bind fun fn=>if fn.body.isNone then entryReads.lookup fn.name else none)=[]:=by
  rw [List.filterMap_eq_nil_iff]
  intro g hgc
  have hg:=xs (h g (hin f hf0 g hgc).1) (hin f hf0 g hgc).2
  unfold H_ at hg
  cases hf:P.funcs[g]? with
  |none=>rfl
  |some fn=>
   rw [hf] at hg
   simp only [Bool.and_eq_true] at hg
   simp only [Option.bind_some]
   cases hb:fn.body with
   |none=>rw [hb] at hg;simp at hg
   |some c=>rfl
 rw [e1,e2]
 rfl
theorem Hr {P:Program} {f:FuncId} {fn:Func} {s:ChangeSpec} {c:OpenClaim} (g:P.inPlace f=[]/\P.unfollowed f=false/\P.recurses f=false/\P.varsNamed f=[]) (c1:c.inPlace=[]) (c2:c.unfollowed=false) (c3:c.recurses=false) (c4:c.named=[])
  (m1:P.mayEnter=true) (m2:P.liftsFinal=false) (m3:P.make=some .cut) (d2:c.lifted=false) (d3:c.make=.cut) (h:Cj P f fn s c=true):joinedFacts P f fn s c=true:=by
 obtain⟨g1,g2,g3,g4⟩:=g
 unfold Cj at h
 unfold joinedFacts
 simp only [Bool.and_eq_true] at h⊢
 obtain⟨⟨⟨⟨⟨⟨⟨⟨⟨⟨⟨⟨⟨⟨⟨⟨⟨⟨⟨⟨⟨⟨⟨⟨k1,k2⟩,k3⟩,k4⟩,k5⟩,k6⟩,k7⟩,k8⟩,k9⟩,k14⟩,k15⟩,k16⟩,k17⟩,k17b⟩,k18⟩,k19⟩,k20⟩,k21⟩,k22⟩,k23⟩,k23b⟩,k25⟩,k26⟩,k27⟩,k28⟩:=h
 refine⟨⟨⟨⟨⟨⟨⟨⟨⟨⟨⟨⟨⟨⟨⟨⟨⟨⟨⟨⟨⟨⟨⟨⟨⟨⟨⟨⟨⟨⟨⟨k1,k2⟩,k3⟩,k4⟩,k5⟩,k6⟩,k7⟩,k8⟩,k9⟩,?_⟩,?_⟩,?_⟩,?_⟩,k14⟩,k15⟩,k16⟩,k17⟩,k17b⟩,k18⟩,k19⟩,k20⟩,k21⟩,k22⟩,k23⟩,k23b⟩,m1⟩,?_⟩,?_⟩,k25⟩,k26⟩,k27⟩,k28⟩
 ·rw [c1,g1];rfl
 ·rw [c2,g2];rfl
 ·rw [c3,g3];rfl
 ·rw [c4,g4];rfl
 ·rw [d2,m2];rfl
 rw [d3,m3];exact beq_self_eq_true _
end
section
open Go
def FL:Nat:=1799743530576795566865501056695624017320885302620131642069987121162515361100033467902552850406931772761286988194433575080812429290764755572092895327244424175097513374805733681717860324056987954907683192474062132780955326270920715452344858482535307899376075615393532403594680460844180638985541582726550961358495062576626090536583761902477174957456911948395488731530735433664940778289407715690097680511153769848384650530170198438030203071214866170890062318327568542544388516172399094796023054825650354670656761298721768880740086685520774746383916379348031785364250180491425858428032304207547958403857377630397078014867181374914133558198476186463010430990787039592400121447893041970223443096027920815982813592993224190404870903408289449686573259812660407001240480247037669585473846832695118771122116312841428836643952421339336289370431158399270709216715886948229551704349154200070437991010415963459010142490036002175318052363613831811432655850143737708544
theorem Iw:(List.range' 3 16).all (E9 Tryz.prog FL 3 301)=true:=by kernel_rfl
theorem Ix:(List.range' 19 16).all (E9 Tryz.prog FL 3 301)=true:=by kernel_rfl
theorem Iy:(List.range' 35 16).all (E9 Tryz.prog FL 3 301)=true:=by kernel_rfl
theorem Iz:(List.range' 51 16).all (E9 Tryz.prog FL 3 301)=true:=by kernel_rfl
theorem IA:(List.range' 67 16).all (E9 Tryz.prog FL 3 301)=true:=by kernel_rfl
theorem IB:(List.range' 83 16).all (E9 Tryz.prog FL 3 301)=true:=by kernel_rfl
theorem IC:(List.range' 99 16).all (E9 Tryz.prog FL 3 301)=true:=by kernel_rfl
theorem ID:(List.range' 115 16).all (E9 Tryz.prog FL 3 301)=true:=by kernel_rfl
theorem IE:(List.range' 131 16).all (E9 Tryz.prog FL 3 301)=true:=by kernel_rfl
theorem IF:(List.range' 147 16).all (E9 Tryz.prog FL 3 301)=true:=by kernel_rfl
theorem Ia:(List.range' 163 16).all (E9 Tryz.prog FL 3 301)=true:=by kernel_rfl
theorem Ib:(List.range' 179 16).all (E9 Tryz.prog FL 3 301)=true:=by kernel_rfl
theorem Ic:(List.range' 195 16).all (E9 Tryz.prog FL 3 301)=true:=by kernel_rfl
theorem Id:(List.range' 211 16).all (E9 Tryz.prog FL 3 301)=true:=by kernel_rfl
theorem Ie:(List.range' 227 16).all (E9 Tryz.prog FL 3 301)=true:=by kernel_rfl
theorem If:(List.range' 243 16).all (E9 Tryz.prog FL 3 301)=true:=by kernel_rfl
theorem Ig:(List.range' 259 16).all (E9 Tryz.prog FL 3 301)=true:=by kernel_rfl
theorem Ih:(List.range' 275 16).all (E9 Tryz.prog FL 3 301)=true:=by kernel_rfl
theorem Ii:(List.range' 291 10).all (E9 Tryz.prog FL 3 301)=true:=by kernel_rfl
theorem H4 (g:Nat) (h:3<=g/\g < 301):E9 Tryz.prog FL 3 301 g=true:=by
 rcases (by omega:(3<=g/\g < 19)\/(19<=g/\g < 35)\/(35<=g/\g < 51)\/(51<=g/\g < 67)\/(67<=g/\g < 83)\/(83<=g/\g < 99)\/(99<=g/\g < 115)\/(115<=g/\g < 131)\/(131<=g/\g < 147)\/(147<=g/\g < 163)\/(163<=g/\g < 179)\/(179<=g/\g < 195)\/(195<=g/\g < 211)\/(211<=g/\g < 227)\/(227<=g/\g < 243)\/(243<=g/\g < 259)\/(259<=g/\g < 275)\/(275<=g/\g < 291)\/(291<=g/\g < 301)) with h|h|h|h|h|h|h|h|h|h|h|h|h|h|h|h|h|h|h
 ·exact List.all_eq_true.1 Iw g (List.mem_range'_1.2 h)
 ·exact List.all_eq_true.1 Ix g (List.mem_range'_1.2 h)
 ·exact List.all_eq_true.1 Iy g (List.mem_range'_1.2 h)
 ·exact List.all_eq_true.1 Iz g (List.mem_range'_1.2 h)
 ·exact List.all_eq_true.1 IA g (List.mem_range'_1.2 h)
 ·exact List.all_eq_true.1 IB g (List.mem_range'_1.2 h)
 ·exact List.all_eq_true.1 IC g (List.mem_range'_1.2 h)
 ·exact List.all_eq_true.1 ID g (List.mem_range'_1.2 h)
 ·exact List.all_eq_true.1 IE g (List.mem_range'_1.2 h)
 ·exact List.all_eq_true.1 IF g (List.mem_range'_1.2 h)
 ·exact List.all_eq_true.1 Ia g (List.mem_range'_1.2 h)
 ·exact List.all_eq_true.1 Ib g (List.mem_range'_1.2 h)
 ·exact List.all_eq_true.1 Ic g (List.mem_range'_1.2 h)
 ·exact List.all_eq_true.1 Id g (List.mem_range'_1.2 h)
 ·exact List.all_eq_true.1 Ie g (List.mem_range'_1.2 h)
 ·exact List.all_eq_true.1 If g (List.mem_range'_1.2 h)
 ·exact List.all_eq_true.1 Ig g (List.mem_range'_1.2 h)
 ·exact List.all_eq_true.1 Ih g (List.mem_range'_1.2 h)
 exact List.all_eq_true.1 Ii g (List.mem_range'_1.2 h)
theorem Hs (f:Nat) (h:((Nat.ble 3 f && Nat.blt f 301) && Nat.blt (un FL f) 1000)=true):Tryz.prog.inPlace f=[]/\Tryz.prog.unfollowed f=false/\Tryz.prog.recurses f=false/\Tryz.prog.varsNamed f=[]:=
 GE H4 f (by simpa only [Bool.and_eq_true,Nat.ble_eq,Nat.blt_eq] using h)
end
end Go.Proofs.YtjghbknhneffjaaGreat
