/-
  VX, part 1: abstract values, the abstract heap, what they stand for in a world, and how that carries over.
-/
import Derived.Tactics
import Derived.Below
import Derived.Laws.AppendOwn
import Derived.Laws.OwnMore
import Derived.Laws.Slices
import Derived.Laws.Small
import Derived.Laws.Strings
import Derived.KernelRfl
namespace Go.Proofs.YtoghbjbfldlfpaaGreat
open Go.RowKit
set_option linter.unusedVariables false
set_option linter.unusedSimpArgs false

def L2 {α β : Type} (R : α → β → Prop) : List α → List β → Prop
  | [], [] => True
  | a :: l, b :: m => R a b ∧ L2 R l m
  | _, _ => False
theorem L2.length {α β : Type} {R : α → β → Prop} : ∀ {l : List α} {m : List β}, L2 R l m → l.length = m.length
  | [], [], _ => rfl
  | _ :: _, _ :: _, h => by simp [L2.length h.2]
  | [], _ :: _, h => h.elim
  | _ :: _, [], h => h.elim
theorem L2.get {α β : Type} {R : α → β → Prop} : ∀ {l : List α} {m : List β}, L2 R l m → ∀ {i : Nat} {x : α}, l[i]? = some x → ∃ y, m[i]? = some y ∧ R x y
  | [], [], _, i, x, h => by simp at h
  | a :: l, b :: m, h, 0, x, hx => by simp at hx; subst hx; exact ⟨b, by simp, h.1⟩
  | a :: l, b :: m, h, i + 1, x, hx => by simp at hx; obtain ⟨y, hy, hr⟩ := L2.get h.2 hx; exact ⟨y, by simpa using hy, hr⟩
  | [], _ :: _, h, _, _, _ => h.elim
  | _ :: _, [], h, _, _, _ => h.elim
theorem L2.mono {α β : Type} {R S : α → β → Prop} (hrs : ∀ a b, R a b → S a b) : ∀ {l : List α} {m : List β}, L2 R l m → L2 S l m
  | [], [], _ => trivial
  | _ :: _, _ :: _, h => ⟨hrs _ _ h.1, L2.mono hrs h.2⟩
  | [], _ :: _, h => h.elim
  | _ :: _, [], h => h.elim
theorem L2.of_get {α β : Type} {R : α → β → Prop} : ∀ {l : List α} {m : List β}, l.length = m.length → (∀ (i : Nat) (x : α) (y : β), l[i]? = some x → m[i]? = some y → R x y) → L2 R l m
  | [], [], _, _ => trivial
  | a :: l, b :: m, hl, h => ⟨h 0 a b (by simp) (by simp), L2.of_get (by simpa using hl) (fun i x y hx hy => h (i + 1) x y (by simpa using hx) (by simpa using hy))⟩
  | [], _ :: _, hl, _ => by simp at hl
  | _ :: _, [], hl, _ => by simp at hl
theorem L2.append {α β : Type} {R : α → β → Prop} : ∀ {l : List α} {m : List β} {l' : List α} {m' : List β}, L2 R l m → L2 R l' m' → L2 R (l ++ l') (m ++ m')
  | [], [], _, _, _, h => h
  | _ :: _, _ :: _, _, _, h, h' => ⟨h.1, L2.append h.2 h'⟩
  | [], _ :: _, _, _, h, _ => h.elim
  | _ :: _, [], _, _, h, _ => h.elim
theorem L2.take {α β : Type} {R : α → β → Prop} : ∀ {l : List α} {m : List β} (n : Nat), L2 R l m → L2 R (l.take n) (m.take n)
  | _, _, 0, _ => by simp [L2]
  | [], [], _ + 1, _ => by simp [L2]
  | _ :: _, _ :: _, n + 1, h => ⟨h.1, L2.take n h.2⟩
  | [], _ :: _, _, h => h.elim
  | _ :: _, [], _, h => h.elim
theorem L2.drop {α β : Type} {R : α → β → Prop} : ∀ {l : List α} {m : List β} (n : Nat), L2 R l m → L2 R (l.drop n) (m.drop n)
  | _, _, 0, h => by simpa using h
  | [], [], _ + 1, _ => by simp [L2]
  | _ :: _, _ :: _, n + 1, h => by simpa using L2.drop n h.2
  | [], _ :: _, _, h => h.elim
  | _ :: _, [], _, h => h.elim
theorem L2.map {α β γ : Type} {R : α → β → Prop} {S : γ → β → Prop} {f : α → γ} (hf : ∀ a b, R a b → S (f a) b) : ∀ {l : List α} {m : List β}, L2 R l m → L2 S (l.map f) m
  | [], [], _ => trivial
  | _ :: _, _ :: _, h => ⟨hf _ _ h.1, L2.map hf h.2⟩
  | [], _ :: _, h => h.elim
  | _ :: _, [], h => h.elim

/-- A value of one cell. -/
inductive Sc where
  | int (k : IntKind) (n : Int)
  | bo (b : Bool)
  | st (l : List UInt8)
  | nil
  | sl (o off len : Nat)
  | pt (o k j : Nat)
  | un
inductive Co where
  | sc (s : Sc)
  | ag (cs : List Sc)
inductive AV where
  | sc (s : Sc)
  | ag (cs : List Sc)
  | tu (l : List Co)
  | cl (f : Nat) (caps : List Sc)
def Co.av : Co → AV
  | .sc s => .sc s
  | .ag cs => .ag cs
def AV.cells : AV → Option (List Sc)
  | .sc s => some [s]
  | .ag cs => some cs
  | _ => none

/-- Where an object lies: block, first cell, cells of an element, cells of the block that belong to it. -/
structure Pl where
  blk : Nat
  base : Nat
  esz : Nat
  avail : Nat
abbrev Be := List (Option Pl)

def ScR (β : Be) : Sc → Value → Prop
  | .int k n, v => v = .int k n
  | .bo b, v => v = .bool b
  | .st l, v => v = .string ⟨l.toArray⟩
  | .nil, v => ∃ a, v = .slice a 0 0
  | .sl o off len, v => ∃ a cap, v = .slice a len cap ∧ len ≤ cap ∧ cap ≤ maxLen ∧
      (cap = 0 ∨ ∃ p, β[o]? = some (some p) ∧ a = some ⟨p.blk, p.base + off * p.esz, none⟩ ∧ (off + cap) * p.esz ≤ p.avail)
  | .pt o k j, v => ∃ p, β[o]? = some (some p) ∧ v = .pointer (some ⟨p.blk, p.base + k * p.esz + j, none⟩)
  | .un, v => ∃ p, v = .pointer p
def CoR (β : Be) : Co → Value → Prop
  | .sc s, v => ScR β s v
  | .ag cs, v => ∃ vs : List Value, v = .agg vs.toArray ∧ L2 (ScR β) cs vs
def AVR (β : Be) : AV → Value → Prop
  | .sc s, v => ScR β s v
  | .ag cs, v => ∃ vs : List Value, v = .agg vs.toArray ∧ L2 (ScR β) cs vs
  | .tu l, v => ∃ vs : List Value, v = .tuple vs.toArray ∧ L2 (CoR β) l vs
  | .cl f caps, v => ∃ vs : List Value, v = .func (.func f) #[] vs.toArray ∧ L2 (ScR β) caps vs

/-- β' knows at least what β knows. -/
def Be.le (β β' : Be) : Prop := ∀ (o : Nat) (p : Option Pl), β[o]? = some p → β'[o]? = some p
theorem Be.le.refl (β : Be) : Be.le β β := fun _ _ h => h
theorem Be.le.trans {a b c : Be} (h : Be.le a b) (k : Be.le b c) : Be.le a c := fun o p hp => k o p (h o p hp)
theorem Be.le_append (β l : Be) : Be.le β (β ++ l) := fun o p h => by
  have hlt : o < β.length := (List.getElem?_eq_some_iff.1 h).1
  rw [List.getElem?_append_left hlt]; exact h
theorem ScR.mono {β β' : Be} (h : Be.le β β') : ∀ {s : Sc} {v : Value}, ScR β s v → ScR β' s v
  | .int .., _, hv => hv
  | .bo .., _, hv => hv
  | .st .., _, hv => hv
  | .nil, _, hv => hv
  | .un, _, hv => hv
  | .sl .., _, ⟨a, cap, hv, h1, h2, h3⟩ => ⟨a, cap, hv, h1, h2, h3.imp id fun ⟨p, hp, r⟩ => ⟨p, h _ _ hp, r⟩⟩
  | .pt .., _, ⟨p, hp, hv⟩ => ⟨p, h _ _ hp, hv⟩
theorem CoR.mono {β β' : Be} (h : Be.le β β') : ∀ {s : Co} {v : Value}, CoR β s v → CoR β' s v
  | .sc _, _, hv => ScR.mono h hv
  | .ag _, _, ⟨vs, hv, hl⟩ => ⟨vs, hv, hl.mono fun _ _ => ScR.mono h⟩
theorem AVR.mono {β β' : Be} (h : Be.le β β') : ∀ {s : AV} {v : Value}, AVR β s v → AVR β' s v
  | .sc _, _, hv => ScR.mono h hv
  | .ag _, _, ⟨vs, hv, hl⟩ => ⟨vs, hv, hl.mono fun _ _ => ScR.mono h⟩
  | .tu _, _, ⟨vs, hv, hl⟩ => ⟨vs, hv, hl.mono fun _ _ => CoR.mono h⟩
  | .cl .., _, ⟨vs, hv, hl⟩ => ⟨vs, hv, hl.mono fun _ _ => ScR.mono h⟩
theorem Co.av_R {β : Be} {c : Co} {v : Value} (h : CoR β c v) : AVR β c.av v := by cases c <;> exact h
theorem ScR.one {β : Be} {s : Sc} {v : Value} (h : ScR β s v) : v.oneCell' = true := by
  cases s with
  | int k n => subst h; rfl
  | bo b => subst h; rfl
  | st l => subst h; rfl
  | nil => obtain ⟨a, rfl⟩ := h; rfl
  | sl o off len => obtain ⟨a, cap, rfl, _⟩ := h; rfl
  | pt o k j => obtain ⟨p, _, rfl⟩ := h; rfl
  | un => obtain ⟨p, rfl⟩ := h; rfl
theorem ScR.cells {β : Be} {s : Sc} {v : Value} (h : ScR β s v) : v.cells = #[v] := by
  cases s with
  | int k n => subst h; rfl
  | bo b => subst h; rfl
  | st l => subst h; rfl
  | nil => obtain ⟨a, rfl⟩ := h; rfl
  | sl o off len => obtain ⟨a, cap, rfl, _⟩ := h; rfl
  | pt o k j => obtain ⟨p, _, rfl⟩ := h; rfl
  | un => obtain ⟨p, rfl⟩ := h; rfl
/-- The cells of a value. -/
theorem AVR.cells {β : Be} {x : AV} {cs : List Sc} {v : Value} (hc : x.cells = some cs) (h : AVR β x v) : ∃ vs : List Value, v.cells = vs.toArray ∧ L2 (ScR β) cs vs := by
  cases x with
  | sc s =>
    simp only [AV.cells, Option.some.injEq] at hc
    subst hc
    exact ⟨[v], by rw [ScR.cells h], ⟨h, trivial⟩⟩
  | ag l =>
    simp only [AV.cells, Option.some.injEq] at hc
    subst hc
    obtain ⟨vs, rfl, hl⟩ := h
    exact ⟨vs, rfl, hl⟩
  | tu l => simp [AV.cells] at hc
  | cl f l => simp [AV.cells] at hc
theorem L2.one {β : Be} {cs : List Sc} {vs : List Value} (h : L2 (ScR β) cs vs) : ∀ v ∈ vs, v.oneCell' = true := by
  induction cs generalizing vs with
  | nil => cases vs with
    | nil => simp
    | cons => exact h.elim
  | cons s l ih => cases vs with
    | nil => simp
    | cons v m =>
      intro x hx
      rcases List.mem_cons.1 hx with rfl | hx
      · exact h.1.one
      · exact ih h.2 x hx

/-- An object of the abstract heap: its elements (each a list of cells), the cells of an element, the element's type, whether it may be written, whether its cells hold no addresses. -/
structure AObj where
  cs : List (List Sc)
  esz : Nat
  ty : TypeId
  own : Bool
  fl : Bool
def Sc.isFlat : Sc → Bool
  | .int .. | .bo _ | .st _ => true
  | _ => false
def flatC : List Sc → Bool
  | [] => true
  | s :: l => s.isFlat && flatC l
def FlatL (cs : List (List Sc)) : Prop := ∀ c ∈ cs, flatC c = true
abbrev Hp := List (Option AObj)
def CellsR (β : Be) (arr : Array Value) (base esz : Nat) (cs : List (List Sc)) : Prop :=
  ∀ k c, cs[k]? = some c → c.length = esz ∧ ∀ j s, c[j]? = some s → ∃ v, arr[base + k * esz + j]? = some v ∧ ScR β s v
def ObR (β : Be) (w : World) (p : Option Pl) (ob : AObj) : Prop :=
  match p with
  | none => ob.cs = []
  | some p => p.esz = ob.esz ∧ ∃ arr T fz, w.heap[p.blk]? = some (.cells arr T fz) ∧ CellsR β arr p.base ob.esz ob.cs ∧
      (ob.own = true → T = ob.ty ∧ fz = (0, 0) ∧ p.base = 0 ∧ p.avail = arr.size)
/-- The abstract heap h, laid by β, is in the world w. -/
structure HSim (β : Be) (h : Hp) (w : World) : Prop where
  len : β.length = h.length
  ob : ∀ (o : Nat) (ob : AObj), h[o]? = some (some ob) → ∃ p, β[o]? = some p ∧ ObR β w p ob
  flat : ∀ (o : Nat) (ob : AObj), h[o]? = some (some ob) → ob.fl = true → FlatL ob.cs
  apart : ∀ (o o' : Nat) (ob ob' : AObj) (p p' : Pl), h[o]? = some (some ob) → h[o']? = some (some ob') → ob.own = true → β[o]? = some (some p) → β[o']? = some (some p') → o ≠ o' → p.blk ≠ p'.blk

theorem CellsR.mono {β β' : Be} (h : Be.le β β') {arr : Array Value} {base esz : Nat} {cs : List (List Sc)} (hc : CellsR β arr base esz cs) : CellsR β' arr base esz cs :=
  fun k c hk => ⟨(hc k c hk).1, fun j s hs => let ⟨v, hv, hr⟩ := (hc k c hk).2 j s hs; ⟨v, hv, hr.mono h⟩⟩
theorem ObR.mono {β β' : Be} (h : Be.le β β') {w : World} {p : Option Pl} {ob : AObj} (ho : ObR β w p ob) : ObR β' w p ob := by
  cases p with
  | none => exact ho
  | some p => obtain ⟨h1, arr, T, fz, h2, h3, h4⟩ := ho; exact ⟨h1, arr, T, fz, h2, h3.mono h, h4⟩
theorem ObR.world {β : Be} {w w' : World} {p : Option Pl} {ob : AObj} (ho : ObR β w p ob) (hw : ∀ q, p = some q → w'.heap[q.blk]? = w.heap[q.blk]?) : ObR β w' p ob := by
  cases p with
  | none => exact ho
  | some p => obtain ⟨h1, arr, T, fz, h2, h3, h4⟩ := ho; exact ⟨h1, arr, T, fz, (hw p rfl).trans h2, h3, h4⟩
/-- An object's block is there. -/
theorem ObR.lt {β : Be} {w : World} {p : Pl} {ob : AObj} (ho : ObR β w (some p) ob) : p.blk < w.heap.size := by
  obtain ⟨_, arr, T, fz, h2, _⟩ := ho
  exact (Array.getElem?_eq_some_iff.1 h2).1

theorem hsim_world {β : Be} {h : Hp} {w w' : World} (hs : HSim β h w) (hw : ∀ k, k < w.heap.size → w'.heap[k]? = w.heap[k]?) : HSim β h w' :=
  ⟨hs.len, fun o ob ho => let ⟨p, hp, hr⟩ := hs.ob o ob ho; ⟨p, hp, hr.world fun q hq => by subst hq; exact hw _ hr.lt⟩, hs.flat, hs.apart⟩

/-- A new object, in a new block. -/
theorem hsim_alloc {β : Be} {h : Hp} {w w' : World} (hs : HSim β h w) (hw : ∀ k, k < w.heap.size → w'.heap[k]? = w.heap[k]?) {ob : AObj} {p : Pl} (hp : w.heap.size ≤ p.blk)
    (hob : ObR (β ++ [some p]) w' (some p) ob) (hfl : ob.fl = true → FlatL ob.cs) : HSim (β ++ [some p]) (h ++ [some ob]) w' := by
  have hs' := hsim_world hs hw
  have hle := Be.le_append β [some p]
  have key : ∀ {o : Nat} {x : AObj}, (h ++ [some ob])[o]? = some (some x) → (o < h.length ∧ h[o]? = some (some x)) ∨ (o = h.length ∧ x = ob) := by
    intro o x hx
    rcases Nat.lt_trichotomy o h.length with hlt | he | hgt
    · rw [List.getElem?_append_left hlt] at hx; exact .inl ⟨hlt, hx⟩
    · subst he; simp at hx; exact .inr ⟨rfl, hx.symm⟩
    · rw [List.getElem?_append_right (by omega)] at hx
      rw [List.getElem?_eq_none (by simp; omega)] at hx
      cases hx
  have kb : ∀ {o : Nat} {q : Option Pl}, o < h.length → (β ++ [some p])[o]? = some q → β[o]? = some q := by
    intro o q ho hq
    rwa [List.getElem?_append_left (by rw [hs.len]; exact ho)] at hq
  have kn : (β ++ [some p])[h.length]? = some (some p) := by rw [← hs.len]; simp
  have lt : ∀ {o : Nat} {x : AObj} {q : Pl}, h[o]? = some (some x) → β[o]? = some (some q) → q.blk < w.heap.size := by
    intro o x q hx hq
    obtain ⟨p', hp', hr⟩ := hs.ob o x hx
    rw [hq] at hp'
    cases hp'
    exact hr.lt
  refine ⟨by simp [hs.len], fun o x hx => ?_, fun o x hx hf => by rcases key hx with ⟨_, hx⟩ | ⟨_, rfl⟩; exact hs.flat o x hx hf; exact hfl hf, fun o o' x x' q q' hx hx' hown hq hq' hne => ?_⟩
  · rcases key hx with ⟨hlt, hx⟩ | ⟨rfl, rfl⟩
    · obtain ⟨q, hq, hr⟩ := hs'.ob o x hx
      exact ⟨q, hle _ _ hq, hr.mono hle⟩
    · exact ⟨some p, kn, hob⟩
  · rcases key hx with ⟨hlt, h1⟩ | ⟨rfl, rfl⟩
    · rcases key hx' with ⟨hlt', h1'⟩ | ⟨rfl, rfl⟩
      · exact hs.apart o o' x x' q q' h1 h1' hown (kb hlt hq) (kb hlt' hq') hne
      · rw [kn] at hq'
        simp only [Option.some.injEq] at hq'
        subst hq'
        have := lt h1 (kb hlt hq)
        omega
    · rw [kn] at hq
      simp only [Option.some.injEq] at hq
      subst hq
      rcases key hx' with ⟨hlt', h1'⟩ | ⟨rfl, rfl⟩
      · have := lt h1' (kb hlt' hq')
        omega
      · exact absurd rfl hne
/-- A new object without a block: empty. -/
theorem hsim_none {β : Be} {h : Hp} {w : World} (hs : HSim β h w) {ob : AObj} (hob : ob.cs = []) : HSim (β ++ [none]) (h ++ [some ob]) w := by
  have hle := Be.le_append β [none]
  have key : ∀ {o : Nat} {x : AObj}, (h ++ [some ob])[o]? = some (some x) → (o < h.length ∧ h[o]? = some (some x)) ∨ (o = h.length ∧ x = ob) := by
    intro o x hx
    rcases Nat.lt_trichotomy o h.length with hlt | he | hgt
    · rw [List.getElem?_append_left hlt] at hx; exact .inl ⟨hlt, hx⟩
    · subst he; simp at hx; exact .inr ⟨rfl, hx.symm⟩
    · rw [List.getElem?_append_right (by omega)] at hx
      rw [List.getElem?_eq_none (by simp; omega)] at hx
      cases hx
  have kb : ∀ {o : Nat} {q : Option Pl}, o < h.length → (β ++ [none])[o]? = some q → β[o]? = some q := by
    intro o q ho hq
    rwa [List.getElem?_append_left (by rw [hs.len]; exact ho)] at hq
  have kn : (β ++ [none])[h.length]? = some none := by rw [← hs.len]; simp
  refine ⟨by simp [hs.len], fun o x hx => ?_, fun o x hx hf => (by rcases key hx with ⟨_, hx⟩ | ⟨_, rfl⟩; exact hs.flat o x hx hf; rw [hob]; intro c hc; cases hc), fun o o' x x' q q' hx hx' hown hq hq' hne => ?_⟩
  · rcases key hx with ⟨hlt, hx⟩ | ⟨rfl, rfl⟩
    · obtain ⟨q, hq, hr⟩ := hs.ob o x hx
      exact ⟨q, hle _ _ hq, hr.mono hle⟩
    · exact ⟨none, kn, hob⟩
  · rcases key hx with ⟨hlt, h1⟩ | ⟨rfl, rfl⟩
    · rcases key hx' with ⟨hlt', h1'⟩ | ⟨rfl, rfl⟩
      · exact hs.apart o o' x x' q q' h1 h1' hown (kb hlt hq) (kb hlt' hq') hne
      · rw [kn] at hq'; cases hq'
    · rw [kn] at hq; cases hq
/-- An object forgotten. -/
theorem hsim_kill {β : Be} {h : Hp} {w : World} (hs : HSim β h w) (n : Nat) : HSim β (h.set n none) w := by
  have key : ∀ {o : Nat} {x : AObj}, (h.set n none)[o]? = some (some x) → h[o]? = some (some x) := by
    intro o x hx
    rw [List.getElem?_set] at hx
    split at hx
    · split at hx <;> cases hx
    · exact hx
  exact ⟨by simp [hs.len], fun o x hx => hs.ob o x (key hx), fun o x hx => hs.flat o x (key hx), fun o o' x x' q q' hx hx' => hs.apart o o' x x' q q' (key hx) (key hx')⟩
end Go.Proofs.YtoghbjbfldlfpaaGreat
