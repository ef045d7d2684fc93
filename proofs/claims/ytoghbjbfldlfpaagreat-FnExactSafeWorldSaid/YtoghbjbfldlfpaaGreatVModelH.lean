/-
  Validity of endpoints, as plain Lean.
-/
import Derived.Test.YtoghbjbfldlfpaaGreatVModelF
namespace Go.Proofs.YtoghbjbfldlfpaaGreat
set_option linter.unusedVariables false

def idxGo {α : Type} (p : α → Bool) (k : Nat) : List α → Int
  | [] => -1
  | x :: r => if p x then (k : Int) else idxGo p (k + 1) r
def idxOf {α : Type} (p : α → Bool) (l : List α) : Int := idxGo p 0 l
theorem idxGo_step {α : Type} {p : α → Bool} {l : List α} {k : Nat} (h : k < l.length) : idxGo p k (l.drop k) = if p l[k] then (k : Int) else idxGo p (k + 1) (l.drop (k + 1)) := by
  rw [List.drop_eq_getElem_cons h, idxGo]
theorem idxGo_end {α : Type} {p : α → Bool} {l : List α} {k : Nat} (h : l.length ≤ k) : idxGo p k (l.drop k) = -1 := by
  rw [List.drop_eq_nil_of_le h, idxGo]
def halfAt (l : List HalfD) (r : RoadD) : Int := idxOf (fun h => roadEq h.road r) l
def addrAt (l : List AddrD) (n : Int) : Int := idxOf (fun a => a.id == n) l
def subAt (l : List SubD) (r : RoadD) : Int := idxOf (fun s => s.state != 4 && roadEq s.road r) l
def roadN (r : RoadD) : Bool := isN r.own && isN r.far && isN r.port
def outOk (o : OutD) : Bool := isN o.base && inR o.room 1 200 && decide ((o.text.length : Int) ≤ o.room) && inR o.sent o.base (IntKind.i64.wrap (o.base + (o.text.length : Int)))
def heldGo (n : Int) : List PieceD → Int
  | [] => n
  | x :: r => heldGo (IntKind.i64.wrap (n + (x.text.length : Int))) r
def heldOf (p : PiecesD) : Int := heldGo (p.ready.length : Int) p.list
theorem heldGo_step {l : List PieceD} {n : Int} {k : Nat} (h : k < l.length) : heldGo n (l.drop k) = heldGo (IntKind.i64.wrap (n + (l[k].text.length : Int))) (l.drop (k + 1)) := by
  rw [List.drop_eq_getElem_cons h, heldGo]
def pcGo (en : Int) : List PieceD → Bool
  | [] => true
  | x :: r => !(x.text == []) && decide (x.pos ≤ 2000000000) && decide (en < x.pos) && pcGo (IntKind.i64.wrap (x.pos + (x.text.length : Int))) r
theorem pcGo_step {l : List PieceD} {n : Int} {k : Nat} (h : k < l.length) : pcGo n (l.drop k) = (!(l[k].text == []) && decide (l[k].pos ≤ 2000000000) && decide (n < l[k].pos) && pcGo (IntKind.i64.wrap (l[k].pos + (l[k].text.length : Int))) (l.drop (k + 1))) := by
  rw [List.drop_eq_getElem_cons h, pcGo]
def piecesOk (p : PiecesD) : Bool := isN p.read && decide ((p.list.length : Int) ≤ 20) && decide (heldOf p ≤ 200) && pcGo (nextOf p) p.list
/-- Each of the first places passes. -/
def upto (p : Nat → Bool) (n : Nat) : Bool := (List.range n).all p
theorem upto_true {p : Nat → Bool} {n : Nat} (h : ∀ j, j < n → p j = true) : upto p n = true := by
  simp only [upto, List.all_eq_true, List.mem_range]
  exact h
theorem upto_false {p : Nat → Bool} {n j : Nat} (hj : j < n) (h : p j = false) : upto p n = false := by
  cases hu : upto p n with
  | false => rfl
  | true =>
    simp only [upto, List.all_eq_true, List.mem_range] at hu
    rw [hu j hj] at h
    cases h
theorem upto_and {p q : Nat → Bool} {n : Nat} : upto (fun j => p j && q j) n = (upto p n && upto q n) := by
  cases h : upto p n with
  | false =>
    simp only [upto, List.all_eq_false, List.mem_range] at h
    obtain ⟨j, hj, h⟩ := h
    rw [Bool.false_and]
    exact upto_false hj (by simp at h; simp [h])
  | true =>
    rw [Bool.true_and]
    cases hq : upto q n with
    | false =>
      simp only [upto, List.all_eq_false, List.mem_range] at hq
      obtain ⟨j, hj, hq⟩ := hq
      exact upto_false hj (by simp at hq; simp [hq])
    | true =>
      simp only [upto, List.all_eq_true, List.mem_range] at h hq
      exact upto_true fun j hj => by rw [h j hj, hq j hj]; rfl
def adA (l : List AddrD) (j : Nat) : AddrD := l.getD j default
theorem adA_eq {l : List AddrD} {n : Nat} (h : n < l.length) : adA l n = l[n] := by
  rw [adA, List.getD_eq_getElem?_getD, List.getElem?_eq_getElem h]; rfl
def adOk (l : List AddrD) (j : Nat) : Bool := inR (adA l j).id 0 255 && inR (adA l j).addr 1 65535 && (j == 0 || decide ((adA l (j - 1)).id < (adA l j).id)) && (l.take j).all fun b => !((adA l j).addr == b.addr)
def addrsOk (l : List AddrD) : Bool := decide ((l.length : Int) ≤ 6) && upto (adOk l) l.length
def haA (l : List HalfD) (j : Nat) : HalfD := l.getD j default
theorem haA_eq {l : List HalfD} {n : Nat} (h : n < l.length) : haA l n = l[n] := by
  rw [haA, List.getD_eq_getElem?_getD, List.getElem?_eq_getElem h]; rfl
def haOk (l : List HalfD) (j : Nat) : Bool := roadN (haA l j).road && [(haA l j).theirs, (haA l j).mine, (haA l j).give, (haA l j).take, (haA l j).till].all isN && halfAt l (haA l j).road == (j : Int)
def halfsOk (l : List HalfD) : Bool := decide ((l.length : Int) ≤ 4) && upto (haOk l) l.length
def riseAt (l : List Int) (j : Nat) : Bool := j == 0 || decide (l.getD (j - 1) 0 < l.getD j 0)
def idAt (l : List Int) (there : List AddrD) (j : Nat) : Bool := inR (l.getD j 0) 0 255 && decide (addrAt there (l.getD j 0) < 0)
def idsOk (l : List Int) (there : List AddrD) : Bool := upto (riseAt l) l.length && upto (idAt l there) l.length
def suOk (l : List SubD) (j : Nat) : Bool := inR (subAtN l j).state 1 4 && roadN (subAtN l j).road && [(subAtN l j).mine, (subAtN l j).theirs, (subAtN l j).give, (subAtN l j).take, (subAtN l j).tries].all isN && ((subAtN l j).state == 4 || subAt l (subAtN l j).road == (j : Int))
def endOk (e : EndD) : Bool :=
  inR e.side 1 2 && inR e.state 0 2 && polOk e.policy && addrsOk e.own && addrsOk e.far && halfsOk e.halfs && bucketOk e.bucket && outOk e.out && piecesOk e.inp &&
  idsOk e.done e.own && idsOk e.over e.far && decide ((e.subs.length : Int) ≤ 8) && [e.key, e.peer, e.draw, e.now, e.pick].all isN && upto (suOk e.subs) e.subs.length
end Go.Proofs.YtoghbjbfldlfpaaGreat
