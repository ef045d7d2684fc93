/-
  Texts merged for this claim by shake.py: what its proof needs.
-/
import Derived.Test.YtjghbknhneffjaaGreatZFnB2K
import Derived.Test.YtjghbknhneffjaaGreatZFnB2L
set_option maxHeartbeats 16000000
set_option maxRecDepth 100000
set_option linter.unusedVariables false
set_option linter.unusedSimpArgs false
namespace Go.Proofs.YtjghbknhneffjaaGreat
section
open Go.RowKit
end
section
open Go.RowKit
section
variable {P:Program} {β:Be} {s:S} {a:Act} {w:World} {o:Oper} {r:OpR} {ty:TypeId}
end
end
section
open Go.RowKit
end
section
open Go.ChangeShapes Go.WideShapes Go.ChangeAt Go.RowKit
end
section
open Go.ChangeShapes Go.WideShapes Go.ChangeAt Go.RowKit
end
section
open Go.RowKit
end
section
open Go
def un (R:Nat) (g:Nat):Nat:=(R >>> (10*g)) % 1024
def H_ (P:Program) (R lo hi:Nat) (g:Nat):Bool:=
 match P.funcs[g]? with
 |none=>true
 |some fn=>((P.leadsTo fn).all fun h=>Nat.blt (un R h) (un R g) && (Nat.ble lo h && Nat.blt h hi)) && (!(fn.ours || fn.body.isNone || fn.name == "runtime.NumGoroutine") && (match fn.body with|some c=> !c.unfollowed && c.globalsNamed.isEmpty|none=>false))
def E9 (P:Program) (R lo hi:Nat) (g:Nat):Bool:=Nat.ble 1000 (un R g) || H_ P R lo hi g
theorem xs {P:Program} {R lo hi g:Nat} (h:E9 P R lo hi g=true) (hr:un R g < 1000):H_ P R lo hi g=true:=by
 unfold E9 at h
 rw [Bool.or_eq_true,Nat.ble_eq] at h
 exact h.resolve_left (by omega)
theorem GD {P:Program} {R lo hi:Nat} (h:∀ g,lo<=g/\g < hi->E9 P R lo hi g=true) {g k:FuncId} (hb:lo<=g/\g < hi) (hr:un R g < 1000) (hk:k∈(P.funcs[g]?).elim [] P.leadsTo):un R k < un R g/\lo<=k/\k < hi:=by
 have hg:=xs (h g hb) hr
 unfold H_ at hg
 cases hf:P.funcs[g]? with
 |none=>rw [hf] at hk;simp at hk
 |some fn=>
  rw [hf] at hg hk
  simp only [Bool.and_eq_true,List.all_eq_true,Nat.blt_eq,Nat.ble_eq] at hg
  exact hg.1 k hk
theorem GE {P:Program} {R lo hi:Nat} (h:∀ g,lo<=g/\g < hi->E9 P R lo hi g=true) (f:FuncId) (hf0:(lo<=f/\f < hi)/\un R f < 1000):P.inPlace f=[]/\P.unfollowed f=false/\P.recurses f=false/\P.varsNamed f=[]:=by
 have hin:∀ k,(lo<=k/\k < hi)/\un R k < 1000->∀ x∈P.closure k,(lo<=x/\x < hi)/\un R x < 1000:=fun k hk=>Bo (S:=fun x=>(lo<=x/\x < hi)/\un R x < 1000) (fun a ha b hb=>⟨(GD h ha.1 ha.2 hb).2,Nat.lt_trans (GD h ha.1 ha.2 hb).1 ha.2⟩) hk
 have hu:P.unfollowed f=false:=by
  unfold Program.unfollowed
  rw [List.any_eq_false]
  intro g hgc
  have hg:=xs (h g (hin f hf0 g hgc).1) (hin f hf0 g hgc).2
  unfold H_ at hg
  cases hf:P.funcs[g]? with
  |none=>simp
  |some fn=>
   rw [hf] at hg
   simp only [Bool.and_eq_true] at hg
   simp only [Option.any_some]
   cases hb:fn.body with
   |none=>rw [hb] at hg;simp at hg
   |some c=>rw [hb] at hg;simp at hg⊢;exact hg.2.2.1
 refine⟨?_,hu,?_,?_⟩
 ·unfold Program.inPlace
  rw [List.filterMap_eq_nil_iff]
  intro g hgc
  have hg:=xs (h g (hin f hf0 g hgc).1) (hin f hf0 g hgc).2
  unfold H_ at hg
  cases hf:P.funcs[g]? with
  |none=>rfl
  |some fn=>
   rw [hf] at hg
   simp only [Bool.and_eq_true,Bool.not_eq_true'] at hg
   simp only [Option.bind_some]
   rw [hg.2.1]
   rfl
 ·unfold Program.recurses
  rw [hu,Bool.false_or,List.any_eq_false]
  intro g hgc
  rw [Bool.not_eq_true,List.any_eq_false]
  intro k hk
  rw [Bool.not_eq_true]
  obtain⟨h1,hkb⟩:=GD h (hin f hf0 g hgc).1 (hin f hf0 g hgc).2 hk
  have hkr:un R k < 1000:=Nat.lt_trans h1 (hin f hf0 g hgc).2
  have h2:∀ x∈P.closure k,un R x<=un R k/\lo<=x/\x < hi:=Bo (S:=fun x=>un R x<=un R k/\lo<=x/\x < hi) (fun a ha b hb=>⟨Nat.le_trans (Nat.le_of_lt (GD h ha.2 (by omega) hb).1) ha.1,(GD h ha.2 (by omega) hb).2⟩) ⟨Nat.le_refl _,hkb⟩
  cases hc:(P.closure k).contains g with
  |false=>rfl
  |true=>
   have:=(h2 g (List.contains_iff_mem.1 hc)).1
   omega
 unfold Program.varsNamed
 have e1:((P.closure f).flatMap fun g=>((P.funcs[g]?).bind (·.body)).elim [] Code.globalsNamed)=[]:=by
  rw [List.flatMap_eq_nil_iff]
  intro g hgc
  have hg:=xs (h g (hin f hf0 g hgc).1) (hin f hf0 g hgc).2
  unfold H_ at hg
  cases hf:P.funcs[g]? with
  |none=>rfl
  |some fn=>
   rw [hf] at hg
   simp only [Bool.and_eq_true] at hg
   simp only [Option.bind_some]
   cases hb:fn.body with
   |none=>rfl
   |some c=>rw [hb] at hg;simp at hg⊢;exact hg.2.2.2
 have e2:((P.closure f).filterMap fun g=>(P.funcs[g]?).bind fun fn=>if fn.body.isNone then entryReads.lookup fn.name else none)=[]:=by
  rw [List.filterMap_eq_nil_iff]
  intro g hgc
  have hg:=xs (h g (hin f hf0 g hgc).1) (hin f hf0 g hgc).2
  unfold H_ at hg
  cases hf:P.funcs[g]? with
  |none=>rfl
  |some fn=>
   rw [hf] at hg
   simp only [Bool.and_eq_true] at hg
   simp only [Option.bind_some]
   cases hb:fn.body with
   |none=>rw [hb] at hg;simp at hg
   |some c=>rfl
 rw [e1,e2]
 rfl
theorem Hr {P:Program} {f:FuncId} {fn:Func} {s:ChangeSpec} {c:OpenClaim} (g:P.inPlace f=[]/\P.unfollowed f=false/\P.recurses f=false/\P.varsNamed f=[]) (c1:c.inPlace=[]) (c2:c.unfollowed=false) (c3:c.recurses=false) (c4:c.named=[])
  (m1:P.mayEnter=true) (m2:P.liftsFinal=false) (m3:P.make=some .cut) (d2:c.lifted=false) (d3:c.make=.cut) (h:Cj P f fn s c=true):joinedFacts P f fn s c=true:=by
 obtain⟨g1,g2,g3,g4⟩:=g
 unfold Cj at h
 unfold joinedFacts
 simp only [Bool.and_eq_true] at h⊢
 obtain⟨⟨⟨⟨⟨⟨⟨⟨⟨⟨⟨⟨⟨⟨⟨⟨⟨⟨⟨⟨⟨⟨⟨⟨k1,k2⟩,k3⟩,k4⟩,k5⟩,k6⟩,k7⟩,k8⟩,k9⟩,k14⟩,k15⟩,k16⟩,k17⟩,k17b⟩,k18⟩,k19⟩,k20⟩,k21⟩,k22⟩,k23⟩,k23b⟩,k25⟩,k26⟩,k27⟩,k28⟩:=h
 refine⟨⟨⟨⟨⟨⟨⟨⟨⟨⟨⟨⟨⟨⟨⟨⟨⟨⟨⟨⟨⟨⟨⟨⟨⟨⟨⟨⟨⟨⟨⟨k1,k2⟩,k3⟩,k4⟩,k5⟩,k6⟩,k7⟩,k8⟩,k9⟩,?_⟩,?_⟩,?_⟩,?_⟩,k14⟩,k15⟩,k16⟩,k17⟩,k17b⟩,k18⟩,k19⟩,k20⟩,k21⟩,k22⟩,k23⟩,k23b⟩,m1⟩,?_⟩,?_⟩,k25⟩,k26⟩,k27⟩,k28⟩
 ·rw [c1,g1];rfl
 ·rw [c2,g2];rfl
 ·rw [c3,g3];rfl
 ·rw [c4,g4];rfl
 ·rw [d2,m2];rfl
 rw [d3,m3];exact beq_self_eq_true _
end
end Go.Proofs.YtjghbknhneffjaaGreat
