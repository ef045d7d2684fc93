/-
  What an argument reads as: a value of a type made of ints, bools, strings, structs of these and slices of such structs is taken apart into its cells. No program in sight.
-/
import Derived.WalkKit
import Derived.ProofKit
import Derived.ShutString
import Derived.OpenShut
import Derived.ChangeOld
import Derived.Below
import Derived.Carry
namespace Go.Proofs.YtoghbjbfldlfpaaGreat
open Go.ChangeShapes Go.WideShapes Go.ChangeAt Go.RowKit

/-- An int of 64 bits. -/
abbrev I64 (n : Int) : Prop := -9223372036854775808 ≤ n ∧ n ≤ 9223372036854775807

/-- A cell without memory behind it. -/
inductive L0 where
  | int | bool | str | byte
deriving DecidableEq
/-- A cell, or a slice of rows of plain cells. -/
inductive L1 where
  | one (l : L0) | sl (ls : List L0)
deriving DecidableEq

def L1.plain : L1 → Option L0
  | .one l => some l
  | .sl _ => none
def plains : List L1 → Option (List L0)
  | [] => some []
  | .one l :: r => (plains r).map (l :: ·)
  | .sl _ :: _ => none

def flatFs (P : Program) (g : TypeId → Option (List L1)) : List Field → Nat → Option (List L1)
  | [], _ => some []
  | f :: r, o =>
    if f.offset = o then
      match g f.type with
      | some l => if P.cellsOf f.type = l.length then (flatFs P g r (o + l.length)).map (l ++ ·) else none
      | none => none
    else none
/-- The cells of a type. -/
def flat (P : Program) : Nat → TypeId → Option (List L1)
  | 0, _ => none
  | n + 1, t =>
    match P.underlying t with
    | some (.int .i64) => some [.one .int]
    | some (.int .u8) => some [.one .byte]
    | some .bool => some [.one .bool]
    | some .string => some [.one .str]
    | some (.struct fs) => match flatFs P (flat P n) fs.toList 0 with
      | some l => if P.cellsOf t = l.length then some l else none
      | none => none
    | some (.slice e) =>
      match flat P n e with
      | some l => match plains l with
        | some l0 => if P.cellsOf e = l0.length ∧ 0 < l0.length then some [.sl l0] else none
        | none => none
      | none => none
    | _ => none

def See0 : L0 → Value → Prop
  | .int, v => ∃ n, v = .int .i64 n ∧ I64 n
  | .byte, v => ∃ n, v = .int .u8 n ∧ 0 ≤ n ∧ n ≤ 255
  | .bool, v => ∃ b, v = .bool b
  | .str, v => ∃ s : ByteArray, v = .string s ∧ s.size ≤ maxLen
def See0s : List L0 → List Value → Prop
  | [], cs => cs = []
  | l :: r, cs => ∃ v cs', cs = v :: cs' ∧ See0 l v ∧ See0s r cs'
/-- A slice value reads as rows of cells. -/
def SeeSl (w : World) (ls : List L0) (v : Value) : Prop :=
  ∃ A n c, v = .slice A n c ∧ n ≤ c ∧ c ≤ maxLen ∧
    (c = 0 ∨ ∃ b off arr T fz, A = some ⟨b, off, none⟩ ∧ w.heap[b]? = some (.cells arr T fz) ∧ ∀ i, i < n → ∃ cs, See0s ls cs ∧ cs.length = ls.length ∧ ∀ (j : Nat) (v : Value), cs[j]? = some v → arr[off + i * ls.length + j]? = some v)
def See1 (w : World) : L1 → Value → Prop
  | .one l, v => See0 l v
  | .sl ls, v => SeeSl w ls v
def See1s (w : World) : List L1 → List Value → Prop
  | [], cs => cs = []
  | l :: r, cs => ∃ v cs', cs = v :: cs' ∧ See1 w l v ∧ See1s w r cs'

theorem See1s.length {w : World} : ∀ {l : List L1} {cs : List Value}, See1s w l cs → cs.length = l.length
  | [], _, h => by unfold See1s at h; subst h; rfl
  | _ :: r, _, h => by obtain ⟨v, cs', rfl, _, h'⟩ := h; simp [h'.length]
theorem See0s.length : ∀ {l : List L0} {cs : List Value}, See0s l cs → cs.length = l.length
  | [], _, h => by unfold See0s at h; subst h; rfl
  | _ :: r, _, h => by obtain ⟨v, cs', rfl, _, h'⟩ := h; simp [h'.length]
theorem See1s.append {w : World} : ∀ {l : List L1} {k : List L1} {cs ds : List Value}, See1s w l cs → See1s w k ds → See1s w (l ++ k) (cs ++ ds)
  | [], _, _, _, h, h' => by unfold See1s at h; subst h; exact h'
  | _ :: r, _, _, _, h, h' => by obtain ⟨v, cs', rfl, hv, hr⟩ := h; exact ⟨v, _, rfl, hv, hr.append h'⟩
theorem See1s.plain {w : World} : ∀ {l : List L1} {l0 : List L0} {cs : List Value}, plains l = some l0 → See1s w l cs → See0s l0 cs
  | [], l0, _, h, h' => by simp [plains] at h; subst h; exact h'
  | .one a :: r, l0, _, h, h' => by
    simp only [plains, Option.map_eq_some_iff] at h
    obtain ⟨r0, hr, rfl⟩ := h
    obtain ⟨v, cs', rfl, hv, hr'⟩ := h'
    exact ⟨v, cs', rfl, hv, hr'.plain hr⟩
  | .sl _ :: _, _, _, h, _ => by simp [plains] at h

section
variable {H : Type} {enc : TypeId × Value → H} {P : Program} {w : World} {base : Nat} {held : Bool}
abbrev spareAll : Nat → Bool := fun _ => true

theorem wf_i64 {n : Int} (h : (Lit.int .i64 n).wf = true) : I64 n := by
  have := bounds_i64 h
  exact this

theorem see_of_flatFs {g : TypeId → Option (List L1)} {n : Nat} (hg : ∀ t l cs x, g t = some l → DataW.trod enc P w base spareAll held n t cs = some x → See1s w l cs) :
    ∀ (fs : List Field) (o : Nat) (l : List L1) (cs : List Value), flatFs P g fs o = some l → cs.length = o + l.length →
      (∀ (i : Nat) (f : Field), fs[i]? = some f → ∃ x, DataW.trod enc P w base spareAll held n f.type ((cs.drop f.offset).take (P.cellsOf f.type)) = some x) → See1s w l (cs.drop o)
  | [], o, l, cs, h, hl, _ => by
    simp only [flatFs, Option.some.injEq] at h
    subst h
    simp only [List.length_nil, Nat.add_zero] at hl
    simp [See1s, hl]
  | f :: r, o, l, cs, h, hl, hf => by
    simp only [flatFs] at h
    split at h
    · rename_i ho
      split at h
      · rename_i l1 hl1
        split at h
        · rename_i hc
          simp only [Option.map_eq_some_iff] at h
          obtain ⟨l2, h2, rfl⟩ := h
          obtain ⟨x, hx⟩ := hf 0 f rfl
          have s1 := hg _ _ _ _ hl1 hx
          have s2 := see_of_flatFs hg r (o + l1.length) l2 cs h2 (by rw [hl]; simp; omega) (fun i f' hi => hf (i + 1) f' hi)
          rw [ho, hc] at s1
          have e : cs.drop o = (cs.drop o).take l1.length ++ cs.drop (o + l1.length) := by
            rw [← List.drop_drop, List.take_append_drop]
          rw [e]
          exact s1.append s2
        · cases h
      · cases h
    · cases h

theorem see_of_flat : ∀ (n fuel : Nat) (t : TypeId) (l : List L1) (cs : List Value) (x : DataW H × List MemPlace), flat P n t = some l →
    DataW.trod enc P w base spareAll held fuel t cs = some x → See1s w l cs := by
  intro n
  induction n with
  | zero => intro fuel t l cs x h; simp [flat] at h
  | succ n ih =>
    intro fuel t l cs x h ht
    unfold flat at h
    split at h
    · rename_i hu
      simp only [Option.some.injEq] at h; subst h
      obtain ⟨k, rfl, rfl, hw⟩ := DataW.trod_int hu ht
      exact ⟨_, [], rfl, ⟨k, rfl, wf_i64 hw⟩, rfl⟩
    · rename_i hu
      simp only [Option.some.injEq] at h; subst h
      obtain ⟨k, rfl, rfl, hw⟩ := DataW.trod_int hu ht
      exact ⟨_, [], rfl, ⟨k, rfl, bounds_u8 hw⟩, rfl⟩
    · rename_i hu
      simp only [Option.some.injEq] at h; subst h
      obtain ⟨b, rfl, rfl⟩ := DataW.trod_bool hu ht
      exact ⟨_, [], rfl, ⟨b, rfl⟩, rfl⟩
    · rename_i hu
      simp only [Option.some.injEq] at h; subst h
      obtain ⟨s, rfl, rfl, hs⟩ := DataW.trod_string hu ht
      exact ⟨_, [], rfl, ⟨s, rfl, hs⟩, rfl⟩
    · rename_i fs hu
      obtain ⟨xs, m, rfl, rfl, hlen, hxl, hi⟩ := DataW.trod_struct hu ht
      split at h
      · rename_i l' hl'
        split at h
        · rename_i hcl
          simp only [Option.some.injEq] at h; subst h
          have hl : cs.length = 0 + l'.length := by omega
          have := see_of_flatFs (enc := enc) (P := P) (w := w) (base := base) (held := held) (n := m) (fun t l cs x h1 h2 => ih _ t l cs x h1 h2) fs.toList 0 l' cs hl' hl (fun i f hf => by
            have hf' : fs[i]? = some f := by simpa using hf
            have hlt : i < xs.length := by rw [hxl]; exact (Array.getElem?_eq_some_iff.1 hf').1
            exact ⟨xs[i], by rw [hi i f hf', List.getElem?_eq_getElem hlt]⟩)
          simpa using this
        · cases h
      · cases h
    · rename_i e hu
      split at h
      · rename_i l1 hl1
        split at h
        · rename_i l0 hl0
          split at h
          · rename_i hc
            simp only [Option.some.injEq] at h; subst h
            rcases DataW.trod_slice hu ht with ⟨rfl, _⟩ | ⟨a, len, cap, elems, rest, m, rfl, rfl, _, _, h1, h2, h3, h4, h5, _⟩
            · exact ⟨_, [], rfl, ⟨none, 0, 0, rfl, Nat.le_refl _, by unfold maxLen; omega, .inl rfl⟩, rfl⟩
            · refine ⟨_, [], rfl, ⟨some a, len, cap, rfl, h1, h2, ?_⟩, rfl⟩
              by_cases hz : cap = 0
              · exact .inl hz
              · right
                obtain ⟨hrl, hrest⟩ := h5 rfl
                have here : ∀ (k : Nat) (o : Option (DataW H × List MemPlace)), (w.cells? base (a.add (k * P.cellsOf e)) (P.cellsOf e)).bind (DataW.trod enc P w base spareAll held m e) = o → o.isSome = true →
                    ∃ ds, See0s l0 ds ∧ ds.length = l0.length ∧ ∀ j, j < l0.length → w.cell? ((a.add (k * l0.length)).add j) = ds[j]? := by
                  intro k o ho hs
                  cases o with
                  | none => cases hs
                  | some y =>
                    simp only [Option.bind_eq_some_iff] at ho
                    obtain ⟨ds, hd, hd2⟩ := ho
                    obtain ⟨_, hdl, hdc⟩ := World.cells?_some hd
                    rw [hc.1] at hdl hdc
                    exact ⟨ds, (ih _ _ _ _ _ hl1 hd2).plain hl0, hdl, hdc⟩
                have key : ∀ i, i < len → ∃ ds, See0s l0 ds ∧ ds.length = l0.length ∧ ∀ j, j < l0.length → w.cell? ((a.add (i * l0.length)).add j) = ds[j]? := by
                  intro i hi
                  exact here i _ (h4 i hi) (by rw [List.getElem?_eq_getElem (by omega)]; rfl)
                have key0 : ∃ ds : List Value, ds.length = l0.length ∧ ∀ j, j < l0.length → w.cell? ((a.add (0 * l0.length)).add j) = ds[j]? := by
                  by_cases hl0' : 0 < len
                  · obtain ⟨ds, _, h6, h7⟩ := key 0 hl0'
                    exact ⟨ds, h6, h7⟩
                  · obtain ⟨ds, _, h6, h7⟩ := here (len + 0) _ (hrest 0 (by omega)) (by rw [List.getElem?_eq_getElem (by omega)]; rfl)
                    have e0 : len + 0 = 0 := by omega
                    rw [e0] at h7
                    exact ⟨ds, h6, h7⟩
                obtain ⟨ds0, hd0, hc0⟩ := key0
                have hcell := hc0 0 hc.2
                rw [List.getElem?_eq_getElem (by omega)] at hcell
                obtain ⟨b, off, spot⟩ := a
                have hspot : spot = none := by simpa [Addr.add] using World.cell?_spot hcell
                subst hspot
                simp only [add_plain] at hcell
                have hblk : ∃ arr T fz, w.heap[b]? = some (.cells arr T fz) := by
                  unfold World.cell? at hcell
                  split at hcell
                  · rename_i hh
                    exact ⟨_, _, _, hh⟩
                  · cases hcell
                obtain ⟨arr, T, fz, hh⟩ := hblk
                refine ⟨b, off, arr, T, fz, rfl, hh, ?_⟩
                intro i hi
                obtain ⟨ds, hs, hdl, hdc⟩ := key i hi
                refine ⟨ds, hs, hdl, fun j v hv => ?_⟩
                have hj : j < l0.length := by rw [← hdl]; exact (List.getElem?_eq_some_iff.1 hv).1
                have := hdc j hj
                simp only [add_plain] at this
                have hcv : w.cell? ⟨b, off + i * l0.length + j, none⟩ = arr[off + i * l0.length + j]? := by simp [World.cell?, hh]
                rw [← hcv, this, hv]
          · cases h
        · cases h
      · cases h
    · cases h
end
end Go.Proofs.YtoghbjbfldlfpaaGreat
