/-
  The program's functions on endpoints and worlds, as plain Lean; their laws.
-/
import Derived.Test.YtoghbjbfldlfpaaGreatVModel
import Derived.Test.YtoghbjbfldlfpaaGreatVDataW
namespace Go.Proofs.YtoghbjbfldlfpaaGreat
set_option linter.unusedVariables false

def natC (n : Nat) : List Sc := [.int .i64 (n : Int)]
attribute [go_sem] natC
theorem all_step {α : Type} {p : α → Bool} {l : List α} {k : Nat} (h : k < l.length) : (l.drop k).all p = (p l[k] && (l.drop (k + 1)).all p) := by
  rw [List.drop_eq_getElem_cons h, List.all_cons]
theorem any_step {α : Type} {p : α → Bool} {l : List α} {k : Nat} (h : k < l.length) : (l.drop k).any p = (p l[k] || (l.drop (k + 1)).any p) := by
  rw [List.drop_eq_getElem_cons h, List.any_cons]
theorem all_end {α : Type} {p : α → Bool} {l : List α} {k : Nat} (h : l.length ≤ k) : (l.drop k).all p = true := by
  rw [List.drop_eq_nil_of_le h, List.all_nil]
theorem any_end {α : Type} {p : α → Bool} {l : List α} {k : Nat} (h : l.length ≤ k) : (l.drop k).any p = false := by
  rw [List.drop_eq_nil_of_le h, List.any_nil]
def lateP (now : Int) (h : HalfD) : Bool := decide (h.till ≤ now) || decide (6 < IntKind.u64.wrap (IntKind.u64.wrap h.till - IntKind.u64.wrap now))
def fresh (e : EndD) : Bool := e.halfs.all fun h => !lateP e.now h
def sideAt (n : Int) : Int := if inR n 10 19 then 1 else if inR n 20 29 then 2 else 0
def roadOwnP (side : Int) (s : SubD) : Bool := sideAt s.road.own == side && sideAt s.road.far == IntKind.i64.wrap (3 - side)
def roadsOwn (e : EndD) : Bool := e.subs.all (roadOwnP e.side)
def ownsAddr (own : List AddrD) (n : Int) : Bool := own.any fun a => a.addr == n
def hasI (l : List Int) (n : Int) : Bool := l.any fun a => a == n
def farP (b : EndD) (f : AddrD) : Bool := ownsAddr b.own f.addr || hasI b.done f.id
def farL (a b : EndD) : Bool := a.far.all (farP b)
def farOk (w : WorldD) : Bool := farL w.a w.b && farL w.b w.a
def onGo (k : Nat) : List SubD → List Nat
  | [] => []
  | s :: r => if s.state = 3 then k :: onGo (k + 1) r else onGo (k + 1) r
def onN (l : List SubD) : List Nat := onGo 0 l
theorem onGo_step {l : List SubD} {k : Nat} (h : k < l.length) : onGo k (l.drop k) = if l[k].state = 3 then k :: onGo (k + 1) (l.drop (k + 1)) else onGo (k + 1) (l.drop (k + 1)) := by
  rw [List.drop_eq_getElem_cons h, onGo]
theorem onGo_mem : ∀ {l r : List SubD} {k : Nat}, r = l.drop k → ∀ n ∈ onGo k r, ∃ h : n < l.length, l[n].state = 3
  | l, [], k, hr, n, hn => by simp [onGo] at hn
  | l, s :: r, k, hr, n, hn => by
    have hk : k < l.length := by
      have := congrArg List.length hr
      simp at this; omega
    rw [List.drop_eq_getElem_cons hk] at hr
    obtain ⟨h1, h2⟩ := List.cons.inj hr
    rw [onGo] at hn
    split at hn
    · rename_i hs
      rcases List.mem_cons.1 hn with rfl | hn
      · exact ⟨hk, by rw [← h1]; exact hs⟩
      · exact onGo_mem h2 n hn
    · exact onGo_mem h2 n hn
theorem onN_mem {l : List SubD} {n : Nat} (h : n ∈ onN l) : ∃ h : n < l.length, l[n].state = 3 := onGo_mem (l := l) (by simp) n h
theorem onN_lt {l : List SubD} {k : Nat} (h : k < (onN l).length) : (onN l)[k] < l.length := (onN_mem (List.getElem_mem h)).1
theorem onGo_len : ∀ {l : List SubD} {k : Nat}, (onGo k l).length ≤ l.length
  | [], k => by simp [onGo]
  | s :: r, k => by
    rw [onGo]
    have := onGo_len (l := r) (k := k + 1)
    split <;> simp <;> omega
theorem onN_len (l : List SubD) : (onN l).length ≤ l.length := onGo_len
def subAtN (l : List SubD) (n : Nat) : SubD := l.getD n default
theorem subAtN_eq {l : List SubD} {n : Nat} (h : n < l.length) : subAtN l n = l[n] := by
  rw [subAtN, List.getD_eq_getElem?_getD, List.getElem?_eq_getElem h]; rfl
theorem onGo_all {l : List SubD} {p : SubD → Bool} : ∀ {r : List SubD} {k : Nat}, r = l.drop k → (onGo k r).all (fun n => p (subAtN l n)) = r.all fun s => s.state != 3 || p s
  | [], k, hr => by simp [onGo]
  | s :: r, k, hr => by
    have hk : k < l.length := by
      have := congrArg List.length hr
      simp at this; omega
    rw [List.drop_eq_getElem_cons hk] at hr
    obtain ⟨h1, h2⟩ := List.cons.inj hr
    rw [onGo, List.all_cons]
    split
    · rename_i hs
      rw [List.all_cons, onGo_all h2, subAtN_eq hk, ← h1]
      simp [hs]
    · rename_i hs
      rw [onGo_all h2]
      simp [hs]
theorem onN_all {l : List SubD} {p : SubD → Bool} : (onN l).all (fun n => p (subAtN l n)) = l.all fun s => s.state != 3 || p s := onGo_all (by simp)
theorem onGo_any {l : List SubD} {p : SubD → Bool} : ∀ {r : List SubD} {k : Nat}, r = l.drop k → (onGo k r).any (fun n => p (subAtN l n)) = r.any fun s => s.state == 3 && p s
  | [], k, hr => by simp [onGo]
  | s :: r, k, hr => by
    have hk : k < l.length := by
      have := congrArg List.length hr
      simp at this; omega
    rw [List.drop_eq_getElem_cons hk] at hr
    obtain ⟨h1, h2⟩ := List.cons.inj hr
    rw [onGo, List.any_cons]
    split
    · rename_i hs
      rw [List.any_cons, onGo_any h2, subAtN_eq hk, ← h1]
      simp [hs]
    · rename_i hs
      rw [onGo_any h2]
      simp [hs]
theorem onN_any {l : List SubD} {p : SubD → Bool} : (onN l).any (fun n => p (subAtN l n)) = l.any fun s => s.state == 3 && p s := onGo_any (by simp)
def partP (s : SubD) (on : Bool) (t : SubD) : Bool := (t.road.own == s.road.far && (t.road.far == s.road.own && t.road.port == s.road.port)) && t.take == s.give && t.give == s.take && (!on || t.state == 3)
def hasPart (b : List SubD) (on : Bool) (s : SubD) : Bool := b.any (partP s on)
def paired (a b : EndD) : Bool := a.subs.all fun s => s.state != 3 || hasPart b.subs false s
def joinable (w : WorldD) : Bool := w.a.subs.any fun s => s.state == 3 && hasPart w.b.subs true s
def allRead (w : WorldD) : Bool := w.readB == w.wroteA && w.readA == w.wroteB
def begins (t h : List UInt8) : Bool := decide (h.length ≤ t.length) && t.take h.length == h
def streamsOk (w : WorldD) : Bool := begins w.wroteA (w.readB ++ w.b.inp.ready) && begins w.wroteB (w.readA ++ w.a.inp.ready)
/-! The gates. -/
def inWin (x frm ticks : Int) : Bool := decide (frm ≤ x) && decide (IntKind.u64.wrap (IntKind.u64.wrap x - IntKind.u64.wrap frm) < IntKind.u64.wrap ticks)
def cntW (l : List Int) (frm ticks : Int) : Nat := (l.filter fun x => inWin x frm ticks).length
def mostGo (l : List Int) (ticks : Int) (most : Nat) : List Int → Nat
  | [] => most
  | f :: r => mostGo l ticks (max most (cntW l f ticks)) r
def mostW (l : List Int) (ticks : Int) : Nat := if inR ticks 1 1000 = true ∧ l.length ≤ 300 then mostGo l ticks 0 l else 0
theorem mostGo_step {l m : List Int} {t : Int} {most k : Nat} (h : k < m.length) : mostGo l t most (m.drop k) = mostGo l t (max most (cntW l m[k] t)) (m.drop (k + 1)) := by
  rw [List.drop_eq_getElem_cons h, mostGo]
theorem filter_take {α : Type} {p : α → Bool} {l : List α} {k : Nat} (h : k < l.length) : ((l.take (k + 1)).filter p).length = ((l.take k).filter p).length + (if p l[k] then 1 else 0) := by
  rw [List.take_succ_eq_append_getElem h, List.filter_append, List.length_append]
  by_cases hp : p l[k] <;> simp [hp]
theorem filter_take_le {α : Type} {p : α → Bool} {l : List α} {k : Nat} : ((l.take k).filter p).length ≤ l.length := by
  refine Nat.le_trans (List.length_filter_le _ _) ?_
  simp; omega
theorem cntW_le (l : List Int) (f t : Int) : cntW l f t ≤ l.length := List.length_filter_le _ _
theorem mostGo_le {l : List Int} {t : Int} : ∀ {m : List Int} {most : Nat}, most ≤ l.length → mostGo l t most m ≤ l.length
  | [], most, h => h
  | f :: r, most, h => by
    rw [mostGo]
    exact mostGo_le (by have := cntW_le l f t; omega)
theorem mostW_le (l : List Int) (t : Int) : mostW l t ≤ 300 := by
  rw [mostW]
  split
  · rename_i h
    have := mostGo_le (l := l) (t := t) (m := l) (most := 0) (Nat.zero_le _)
    omega
  · omega
def bucketOk (b : BucketD) : Bool := inR b.rate 0 100 && inR b.burst 1 100 && inR b.cur 0 b.burst
def mostIn (b : BucketD) (t : Int) : Int := if bucketOk b && inR t 0 100000 then b.burst + b.rate * t else 0
def gated (l : List Int) (ticks : Int) : Bool := inR ticks 1 100 && (List.range ticks.toNat).all fun k => decide ((mostW l (k + 1 : Nat) : Int) ≤ 3 + ((k + 1 : Nat) : Int))
def modest (e : EndD) : Bool := fresh e && decide ((e.halfs.length : Int) ≤ 4) && decide ((e.subs.length : Int) ≤ 8)
def gatedWorld (w : WorldD) : Bool := gated w.answersA 20 && gated w.answersB 20 && modest w.a && modest w.b
/-! Roads. -/
def wantGo (far : List AddrD) (acc : List RoadD) : List AddrD → List RoadD
  | [] => acc
  | a :: r => wantGo far ((acc ++ far.map fun b => (⟨a.addr, b.addr, 0⟩ : RoadD)).take 8) r
def manyL (o f : Int) (n : Nat) : List RoadD := (List.range n).map fun (k : Nat) => (⟨o, f, (k : Int)⟩ : RoadD)
def addr0 (l : List AddrD) : Int := match l with
  | [] => 0
  | a :: _ => a.addr
def wanted (p : PolicyD) (own far : List AddrD) : List RoadD :=
  if polOk p = true ∧ inR own.length 1 6 = true ∧ inR far.length 1 6 = true then
    (if p.kind = 1 then wantGo far [] own else manyL (addr0 own) (addr0 far) (if p.kind = 2 then p.many.toNat else 1))
  else []
def roadEq (a b : RoadD) : Bool := a.own == b.own && (a.far == b.far && a.port == b.port)
def hasRoad (l : List RoadD) (r : RoadD) : Bool := l.any fun x => roadEq x r
def missing (want have_ : List RoadD) : List RoadD := if want.length ≤ 64 ∧ have_.length ≤ 64 then want.filter fun r => !hasRoad have_ r else []
def roadsOn (l : List SubD) : List RoadD := (onN l).map fun n => (subAtN l n).road
def allWanted (w : WorldD) : Bool := (missing (wanted w.a.policy w.a.own w.a.far) (roadsOn w.a.subs)).length == 0
end Go.Proofs.YtoghbjbfldlfpaaGreat
