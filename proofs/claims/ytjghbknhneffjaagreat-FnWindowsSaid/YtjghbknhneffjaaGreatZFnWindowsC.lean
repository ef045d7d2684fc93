/-
  Texts merged for this claim by shake.py: what its proof needs.
-/
import Derived.Test.YtjghbknhneffjaaGreatZFnB2K
import Derived.Test.YtjghbknhneffjaaGreatZFnB2L
import Derived.Test.YtjghbknhneffjaaGreatZFnWindowsA
set_option maxHeartbeats 16000000
set_option maxRecDepth 100000
set_option linter.unusedVariables false
set_option linter.unusedSimpArgs false
namespace Go.Proofs.YtjghbknhneffjaaGreat
section
open Go.RowKit
end
section
open Go.RowKit
section
variable {β β0':Be} {ρ:Rho} {N:Nat}
end
end
section
open Go.RowKit
end
section
open Go.RowKit
section
variable {P:Program} {E:Entry} {F:S->Prop} {c q:Prop}
end
end
section
open Go.RowKit
end
section
end
section
open Go.RowKit
theorem IG {b:List UInt8} {α:Type} [Inhabited α] {C:CurD->α->CurD->Prop} (h:∀ c,c.ok b->∃ x c',C c x c'):∃ F:CurD->α×CurD,∀ c,c.ok b->C c (F c).1 (F c).2:=by
 classical
 refine⟨fun c=>if hc:c.ok b then ((h c hc).choose,(h c hc).choose_spec.choose) else (default,c),fun c hc=>?_⟩
 simp only [dif_pos hc]
 exact (h c hc).choose_spec.choose_spec
def r8 (F:CurD->ActD×CurD):Nat->CurD->List ActD×CurD
 |0,c=>([],c)
 |n+1,c=>((F c).1::(r8 F n (F c).2).1,(r8 F n (F c).2).2)
theorem Gq {b:List UInt8} {F:CurD->ActD×CurD} (hF:∀ c,c.ok b->(F c).2.ok b/\EQ (F c).1):∀ (n:Nat) (c:CurD),c.ok b->(r8 F n c).2.ok b/\(r8 F n c).1.length=n/\∀ a∈(r8 F n c).1,EQ a
 |0,c,h=>⟨h,rfl,fun a ha=>by simp [r8] at ha⟩
 |n+1,c,h=>by
  obtain⟨h1,h2⟩:=hF c h
  obtain⟨h3,h4,h5⟩:=Gq hF n (F c).2 h1
  refine⟨h3,by simp only [r8,List.length_cons,h4],fun a ha=>?_⟩
  simp only [r8,List.mem_cons] at ha
  rcases ha with rfl|ha
  ·exact h2
  exact h5 a ha
theorem F7 (b:List UInt8) (c:CurD) (hc:c.ok b) (m:Int) (hm:1<=m/\m<=120):∃ (l:List ActD) (c':CurD),c'.ok b/\l.length<=120/\(∀ a∈l,EQ a)/\aP 84 [.sc (.pt 1 0 0),.sc (.int .i64 m)] (c.hp b) (.sc (.sl 2 0 l.length)) (c'.hp b++[some ⟨l.map ActD.cs,28,113,true,true⟩]):=by
 obtain⟨F,hF⟩:=IG (b:=b) (Bi b)
 have h1:=ai b c hc m
 have o1:=CurD.below_ok hc m
 have b1:=c.below_lt b (n:=m) (by omega)
 generalize c.below b m=r1 at h1 o1 b1
 obtain⟨v,c1⟩:=r1
 dsimp only at h1 o1 b1
 obtain⟨n,rfl⟩:=Int.eq_ofNat_of_zero_le b1.1
 obtain⟨q1,q2,q3⟩:=Gq (F:=F) (fun c h=>⟨(hF c h).1,(hF c h).2.1⟩) n c1 o1
 obtain⟨R,hR⟩:∃ R,R=r8 F n c1:=⟨_,rfl⟩
 rw [<-hR] at q1 q2 q3
 refine⟨R.1,R.2,q1,by omega,q3,?_⟩
 refine qE Tryz.func84 Tryz.ntmps84 Tryz.results84 fun E hE=>?_
 refine qK (h1) (qI 0 2) ?_
 refine jx 2 hE (fun s (y:List ActD×CurD)=>s.at (qU [1,1,8,14]) [(7,.sc (.int .i64 (y.1.length:Nat))),(5,.sc (.sl 2 0 y.1.length))] (y.2.hp b++[some ⟨y.1.map ActD.cs,28,113,true,true⟩])) (fun (y:List ActD×CurD)=>y.1.length<=n/\y.2.ok b/\(y.1++(r8 F (n - y.1.length) y.2).1,(r8 F (n - y.1.length) y.2).2)=R) (fun (y:List ActD×CurD)=>n - y.1.length) ([],c1) (qI 0 3) (⟨Nat.zero_le _,o1,hR.symm⟩) fun y hy N hN=>?_
 obtain⟨acc,c2⟩:=y
 obtain⟨f1,f2,f3⟩:=hy
 dsimp only at f1 f2 f3
 obtain⟨k1,k2,k3⟩:=hF c2 f2
 refine qR ?_
 refine qB (fun h=>?_) fun h=>?_
 ·rw [show n - acc.length=(n - (acc.length+1))+1 from by omega,r8] at f3
  generalize F c2=z at k1 k2 k3 f3
  obtain⟨a,c3⟩:=z
  dsimp only at k1 k2 k3 f3
  refine qK (k3) (qI 0 2) ?_
  refine⟨qC,hN _ (acc++[a],c3) (qI 0 2++qI 4 1) (by (try dsimp only);exact⟨by simp;omega,k1,by rw [List.length_append,List.length_singleton,List.append_assoc];exact f3⟩) (by simp;omega) (bw (by rfl) (by rfl) ?_)⟩
  try simp (disch:=omega) only [go_sem,seval]
  try simp [ActD.cs]
 rw [show n - acc.length=0 from by omega] at f3
 simp only [r8,List.append_nil] at f3
 subst f3
 exact qF (qI 0 3)
attribute [go_sem] List.append_eq
theorem ft (l:List Int) (hl:l.length<=4611686018427387904):aP 17 [.sc (.sl 0 0 l.length),.sc (.sl 1 0 l.length)] [some ⟨l.map aM,1,3,false,true⟩,some ⟨l.map aM,1,3,false,true⟩] (.sc (.bo true)) [some ⟨l.map aM,1,3,false,true⟩,some ⟨l.map aM,1,3,false,true⟩]:=by
 refine qE Tryz.func17 Tryz.ntmps17 Tryz.results17 fun E hE=>?_
 refine jx 2 hE (fun s (k:Nat)=>s.at (qU [4,1,6,20]) [(5,.sc (.int .i64 (k:Nat)))] (s.hp)) (fun (k:Nat)=>k<=l.length) (fun (k:Nat)=>l.length - k) 0 (qI 0 2) (Nat.zero_le _) fun k hk N hN=>?_
 refine qR ?_
 refine qB (fun h=>?_) fun h=>?_
 ·refine qD [0,1,2,3,4,5,6,7,8] ?_
  refine qG ?_
  exact qN hN (k+1) (qI 0 2) (by (try dsimp only);exact h)
 exact qF (qI 0 2)
end
section
open Go
def FL:Nat:=1799743530576795566865501056695624017320885302620131642069987121162515361100033467902552850406931772761286988194433575080812429290764755572092895327244424175097513374805733681717860324056987954907683192474062132780955326270920715452344858482535307899376075615393532403594680460844180638985541582726550961358495062576626090536583761902477174957456911948395488731530735433664940778289407715690097680511153769848384650530170198438030203071214866170890062318327568542544388516172399094796023054825650354670656761298721768880740086685520774746383916379348031785364250180491425858428032304207547958403857377630397078014867181374914133558198476186463010430990787039592400121447893041970223443096027920815982813592993224190404870903408289449686573259812660407001240480247037669585473846832695118771122116312841428836643952421339336289370431158399270709216715886948229551704349154200070437991010415963459010142490036002175318052363613831811432655850143737708544
theorem Iw:(List.range' 3 16).all (E9 Tryz.prog FL 3 301)=true:=by kernel_rfl
theorem Ix:(List.range' 19 16).all (E9 Tryz.prog FL 3 301)=true:=by kernel_rfl
theorem Iy:(List.range' 35 16).all (E9 Tryz.prog FL 3 301)=true:=by kernel_rfl
theorem Iz:(List.range' 51 16).all (E9 Tryz.prog FL 3 301)=true:=by kernel_rfl
theorem IA:(List.range' 67 16).all (E9 Tryz.prog FL 3 301)=true:=by kernel_rfl
theorem IB:(List.range' 83 16).all (E9 Tryz.prog FL 3 301)=true:=by kernel_rfl
theorem IC:(List.range' 99 16).all (E9 Tryz.prog FL 3 301)=true:=by kernel_rfl
theorem ID:(List.range' 115 16).all (E9 Tryz.prog FL 3 301)=true:=by kernel_rfl
theorem IE:(List.range' 131 16).all (E9 Tryz.prog FL 3 301)=true:=by kernel_rfl
theorem IF:(List.range' 147 16).all (E9 Tryz.prog FL 3 301)=true:=by kernel_rfl
theorem Ia:(List.range' 163 16).all (E9 Tryz.prog FL 3 301)=true:=by kernel_rfl
theorem Ib:(List.range' 179 16).all (E9 Tryz.prog FL 3 301)=true:=by kernel_rfl
theorem Ic:(List.range' 195 16).all (E9 Tryz.prog FL 3 301)=true:=by kernel_rfl
theorem Id:(List.range' 211 16).all (E9 Tryz.prog FL 3 301)=true:=by kernel_rfl
theorem Ie:(List.range' 227 16).all (E9 Tryz.prog FL 3 301)=true:=by kernel_rfl
theorem If:(List.range' 243 16).all (E9 Tryz.prog FL 3 301)=true:=by kernel_rfl
theorem Ig:(List.range' 259 16).all (E9 Tryz.prog FL 3 301)=true:=by kernel_rfl
theorem Ih:(List.range' 275 16).all (E9 Tryz.prog FL 3 301)=true:=by kernel_rfl
theorem Ii:(List.range' 291 10).all (E9 Tryz.prog FL 3 301)=true:=by kernel_rfl
theorem H4 (g:Nat) (h:3<=g/\g < 301):E9 Tryz.prog FL 3 301 g=true:=by
 rcases (by omega:(3<=g/\g < 19)\/(19<=g/\g < 35)\/(35<=g/\g < 51)\/(51<=g/\g < 67)\/(67<=g/\g < 83)\/(83<=g/\g < 99)\/(99<=g/\g < 115)\/(115<=g/\g < 131)\/(131<=g/\g < 147)\/(147<=g/\g < 163)\/(163<=g/\g < 179)\/(179<=g/\g < 195)\/(195<=g/\g < 211)\/(211<=g/\g < 227)\/(227<=g/\g < 243)\/(243<=g/\g < 259)\/(259<=g/\g < 275)\/(275<=g/\g < 291)\/(291<=g/\g < 301)) with h|h|h|h|h|h|h|h|h|h|h|h|h|h|h|h|h|h|h
 ·exact List.all_eq_true.1 Iw g (List.mem_range'_1.2 h)
 ·exact List.all_eq_true.1 Ix g (List.mem_range'_1.2 h)
 ·exact List.all_eq_true.1 Iy g (List.mem_range'_1.2 h)
 ·exact List.all_eq_true.1 Iz g (List.mem_range'_1.2 h)
 ·exact List.all_eq_true.1 IA g (List.mem_range'_1.2 h)
 ·exact List.all_eq_true.1 IB g (List.mem_range'_1.2 h)
 ·exact List.all_eq_true.1 IC g (List.mem_range'_1.2 h)
 ·exact List.all_eq_true.1 ID g (List.mem_range'_1.2 h)
 ·exact List.all_eq_true.1 IE g (List.mem_range'_1.2 h)
 ·exact List.all_eq_true.1 IF g (List.mem_range'_1.2 h)
 ·exact List.all_eq_true.1 Ia g (List.mem_range'_1.2 h)
 ·exact List.all_eq_true.1 Ib g (List.mem_range'_1.2 h)
 ·exact List.all_eq_true.1 Ic g (List.mem_range'_1.2 h)
 ·exact List.all_eq_true.1 Id g (List.mem_range'_1.2 h)
 ·exact List.all_eq_true.1 Ie g (List.mem_range'_1.2 h)
 ·exact List.all_eq_true.1 If g (List.mem_range'_1.2 h)
 ·exact List.all_eq_true.1 Ig g (List.mem_range'_1.2 h)
 ·exact List.all_eq_true.1 Ih g (List.mem_range'_1.2 h)
 exact List.all_eq_true.1 Ii g (List.mem_range'_1.2 h)
theorem Hs (f:Nat) (h:((Nat.ble 3 f && Nat.blt f 301) && Nat.blt (un FL f) 1000)=true):Tryz.prog.inPlace f=[]/\Tryz.prog.unfollowed f=false/\Tryz.prog.recurses f=false/\Tryz.prog.varsNamed f=[]:=
 GE H4 f (by simpa only [Bool.and_eq_true,Nat.ble_eq,Nat.blt_eq] using h)
end
end Go.Proofs.YtjghbknhneffjaaGreat
