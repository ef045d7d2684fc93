/-
  Even turns, as plain Lean.
-/
import Derived.Test.YtoghbjbfldlfpaaVModelE
namespace Go.Proofs.Ytoghbjbfldlfpaa
set_option linter.unusedVariables false

def nsp (l : List SubD) (n : Nat) : Bool := !(subAtN l n).spare
def carrN (l : List SubD) : List Nat := if ((onN l).filter (nsp l)).length = 0 then onN l else (onN l).filter (nsp l)
theorem carrN_lt {l : List SubD} {n : Nat} (h : n ∈ carrN l) : n < l.length := by
  rw [carrN] at h
  split at h
  · exact (onN_mem h).1
  · exact (onN_mem (List.mem_filter.1 h).1).1
theorem carrN_len (l : List SubD) : (carrN l).length ≤ l.length := by
  rw [carrN]
  split
  · exact onN_len l
  · exact Nat.le_trans (List.length_filter_le _ _) (onN_len l)
def atI (list : List Int) (k : Nat) : Int := list.getD k 0
theorem atI_eq {list : List Int} {k : Nat} (h : k < list.length) : atI list k = list[k] := by
  rw [atI, List.getD_eq_getElem?_getD, List.getElem?_eq_getElem h]; rfl
def valsOf (l : List SubD) (list : List Int) : List Int := (carrN l).map (atI list)
def wide2 (a b : Int) : Bool := decide (b < a) && decide (1 < IntKind.u64.wrap (IntKind.u64.wrap a - IntKind.u64.wrap b))
def evenI (v : List Int) : Bool := v.all fun a => v.all fun b => !wide2 a b
def mmGo (first : Bool) (least most : Int) : List Int → Int × Int
  | [] => (least, most)
  | n :: r => mmGo false (if (first || decide (n < least)) = true then n else least) (if (first || decide (most < n)) = true then n else most) r
def evenS (v : List Int) : Bool := (mmGo true 0 0 v).2 == (mmGo true 0 0 v).1 || decide (IntKind.i64.wrap ((mmGo true 0 0 v).2 - 1) ≤ (mmGo true 0 0 v).1)
def evenIn (e : EndD) (list : List Int) : Bool := decide ((list.length : Int) = (e.subs.length : Int)) && evenI (valsOf e.subs list)
theorem wide2_iff {a b : Int} (ha : I64 a) (hb : I64 b) : wide2 a b = true ↔ 1 < a - b := by
  obtain ⟨a1, a2⟩ := ha
  obtain ⟨b1, b2⟩ := hb
  simp only [wide2, Bool.and_eq_true, decide_eq_true_eq, IntKind.wrap_u64]
  constructor
  · rintro ⟨h1, h2⟩; omega
  · intro h; constructor <;> omega
theorem mm_facts : ∀ {v : List Int} {l m : Int}, l ≤ m → (mmGo false l m v).1 ≤ l ∧ m ≤ (mmGo false l m v).2 ∧ (∀ x ∈ v, (mmGo false l m v).1 ≤ x ∧ x ≤ (mmGo false l m v).2) ∧ ((mmGo false l m v).1 = l ∨ (mmGo false l m v).1 ∈ v) ∧ ((mmGo false l m v).2 = m ∨ (mmGo false l m v).2 ∈ v)
  | [], l, m, h => ⟨Int.le_refl _, Int.le_refl _, fun x hx => by simp at hx, .inl rfl, .inl rfl⟩
  | n :: r, l, m, h => by
    rw [mmGo]
    simp only [Bool.false_or, decide_eq_true_eq]
    obtain ⟨l', hl, hl1, hl2, hl3⟩ : ∃ l', (if n < l then n else l) = l' ∧ l' ≤ l ∧ l' ≤ n ∧ (l' = l ∨ l' = n) := ⟨_, rfl, by split <;> omega, by split <;> omega, by split <;> simp⟩
    obtain ⟨m', hm, hm1, hm2, hm3⟩ : ∃ m', (if m < n then n else m) = m' ∧ m ≤ m' ∧ n ≤ m' ∧ (m' = m ∨ m' = n) := ⟨_, rfl, by split <;> omega, by split <;> omega, by split <;> simp⟩
    rw [hl, hm]
    obtain ⟨h1, h2, h3, h4, h5⟩ := mm_facts (v := r) (l := l') (m := m') (by omega)
    refine ⟨by omega, by omega, fun x hx => ?_, ?_, ?_⟩
    · rcases List.mem_cons.1 hx with rfl | hx
      · exact ⟨by omega, by omega⟩
      · exact h3 x hx
    · rcases h4 with h4 | h4
      · rcases hl3 with e | e
        · exact .inl (by omega)
        · exact .inr (by rw [h4, e]; simp)
      · exact .inr (List.mem_cons_of_mem _ h4)
    · rcases h5 with h5 | h5
      · rcases hm3 with e | e
        · exact .inl (by omega)
        · exact .inr (by rw [h5, e]; simp)
      · exact .inr (List.mem_cons_of_mem _ h5)
theorem even_eq {v : List Int} (hv : ∀ x ∈ v, I64 x) : evenS v = evenI v := by
  cases v with
  | nil => decide
  | cons n r =>
    have e : mmGo true 0 0 (n :: r) = mmGo false n n r := by simp [mmGo]
    obtain ⟨h1, h2, h3, h4, h5⟩ := mm_facts (v := r) (Int.le_refl n)
    rw [evenS, e]
    generalize mmGo false n n r = p at h1 h2 h3 h4 h5
    obtain ⟨lo, hi⟩ := p
    dsimp only at h1 h2 h3 h4 h5 ⊢
    have hlo : lo ∈ n :: r := by rcases h4 with h | h <;> simp [h]
    have hhi : hi ∈ n :: r := by rcases h5 with h | h <;> simp [h]
    obtain ⟨lo1, lo2⟩ := hv lo hlo
    obtain ⟨hi1, hi2⟩ := hv hi hhi
    have hall : ∀ x ∈ n :: r, lo ≤ x ∧ x ≤ hi := by
      intro x hx
      rcases List.mem_cons.1 hx with rfl | hx
      · exact ⟨h1, h2⟩
      · exact h3 x hx
    cases hE : evenI (n :: r) with
    | true =>
      simp only [evenI, List.all_eq_true, Bool.not_eq_true'] at hE
      have := hE hi hhi lo hlo
      have hw : ¬ 1 < hi - lo := fun h => by
        rw [(wide2_iff (hv hi hhi) (hv lo hlo)).2 h] at this
        cases this
      simp only [Bool.or_eq_true, beq_iff_eq, decide_eq_true_eq, IntKind.wrap_i64]
      by_cases hq : hi = lo
      · exact .inl hq
      · right; omega
    | false =>
      have hex : ∃ a ∈ n :: r, ∃ b ∈ n :: r, wide2 a b = true := Classical.byContradiction fun hn => by
        have ht : evenI (n :: r) = true := by
          simp only [evenI, List.all_eq_true, Bool.not_eq_true']
          intro a ha b hb
          cases h : wide2 a b with
          | false => rfl
          | true => exact absurd ⟨a, ha, b, hb, h⟩ hn
        rw [ht] at hE
        cases hE
      obtain ⟨a, ha, b, hb, hab⟩ := hex
      have := (wide2_iff (hv a ha) (hv b hb)).1 hab
      have q1 := hall a ha
      have q2 := hall b hb
      simp only [Bool.or_eq_false_iff, beq_eq_false_iff_ne, decide_eq_false_iff_not, IntKind.wrap_i64]
      constructor
      · intro h; omega
      · omega
def someB (l : List SubD) : Bool := (onN l).any (nsp l)
def keepP (l : List SubD) (n : Nat) : Bool := !(someB l && (subAtN l n).spare)
theorem sel_eq (l : List SubD) : (onN l).filter (keepP l) = carrN l := by
  rw [carrN]
  cases hs : someB l with
  | true =>
    have e : keepP l = nsp l := funext fun n => by simp [keepP, nsp, hs]
    rw [e, if_neg]
    intro h
    rw [someB, List.any_eq_true] at hs
    obtain ⟨x, hx, hp⟩ := hs
    have : x ∈ (onN l).filter (nsp l) := List.mem_filter.2 ⟨hx, hp⟩
    rw [List.eq_nil_of_length_eq_zero h] at this
    simp at this
  | false =>
    have h0 : (onN l).filter (nsp l) = [] := by
      rw [List.filter_eq_nil_iff]
      intro x hx hp
      rw [someB, List.any_eq_false] at hs
      exact hs x hx hp
    rw [h0, if_pos (by simp), List.filter_eq_self]
    intro x _
    simp [keepP, hs]
end Go.Proofs.Ytoghbjbfldlfpaa
