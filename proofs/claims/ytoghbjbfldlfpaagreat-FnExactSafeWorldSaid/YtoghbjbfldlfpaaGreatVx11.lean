/-
  VX, part 11: a state seen as another one; loops; calls by a contract that is stated over its own small heap; whole functions.
-/
import Derived.Test.YtoghbjbfldlfpaaGreatVx10
namespace Go.Proofs.YtoghbjbfldlfpaaGreat
open Go.RowKit
set_option linter.unusedVariables false
set_option linter.unusedSimpArgs false

def sep1 (n : Nat) (own : Bool) : Rho → Hp → Bool
  | some (m, _) :: ρ, some u :: h => (!(own || u.own) || n != m) && sep1 n own ρ h
  | _ :: ρ, _ :: h => sep1 n own ρ h
  | _, _ => true
def sepB : Rho → Hp → Bool
  | some (n, _) :: ρ, some t :: h => sep1 n t.own ρ h && sepB ρ h
  | _ :: ρ, _ :: h => sepB ρ h
  | _, _ => true
theorem sep1_get {n : Nat} {own : Bool} : ∀ {ρ : Rho} {h : Hp}, sep1 n own ρ h = true → ∀ {j m : Nat} {d : Option Nat} {u : AObj}, ρ[j]? = some (some (m, d)) → h[j]? = some (some u) → (own = true ∨ u.own = true) → n ≠ m
  | [], _, _, j, m, d, u, hr, _, _ => by simp at hr
  | _ :: _, [], _, j, m, d, u, _, hh, _ => by simp at hh
  | x :: ρ, y :: h, hs, 0, m, d, u, hr, hh, ho => by
    simp only [List.getElem?_cons_zero, Option.some.injEq] at hr hh
    subst hr; subst hh
    simp only [sep1, Bool.and_eq_true, Bool.or_eq_true, bne_iff_ne, Bool.not_eq_true'] at hs
    rcases hs.1 with h1 | h1
    · rcases ho with ho | ho <;> simp [ho] at h1
    · exact h1
  | x :: ρ, y :: h, hs, j + 1, m, d, u, hr, hh, ho => by
    simp only [List.getElem?_cons_succ] at hr hh
    refine sep1_get (ρ := ρ) (h := h) ?_ hr hh ho
    cases x with
    | none => simpa [sep1] using hs
    | some x => cases y with
      | none => simpa [sep1] using hs
      | some y =>
        obtain ⟨a, b⟩ := x
        simp only [sep1, Bool.and_eq_true] at hs
        exact hs.2
theorem sepB_tail {x : Option (Nat × Option Nat)} {y : Option AObj} {ρ : Rho} {h : Hp} (hs : sepB (x :: ρ) (y :: h) = true) : sepB ρ h = true := by
  cases x with
  | none => simpa [sepB] using hs
  | some x => cases y with
    | none => simpa [sepB] using hs
    | some y =>
      obtain ⟨a, b⟩ := x
      simp only [sepB, Bool.and_eq_true] at hs
      exact hs.2
theorem sepB_get : ∀ {ρ : Rho} {h : Hp}, sepB ρ h = true → ∀ {i j n m : Nat} {d e : Option Nat} {t u : AObj}, i < j → ρ[i]? = some (some (n, d)) → h[i]? = some (some t) → ρ[j]? = some (some (m, e)) → h[j]? = some (some u) → (t.own = true ∨ u.own = true) → n ≠ m
  | [], _, _, i, j, n, m, d, e, t, u, _, hr, _, _, _, _ => by simp at hr
  | _ :: _, [], _, i, j, n, m, d, e, t, u, _, _, hh, _, _, _ => by simp at hh
  | x :: ρ, y :: h, hs, 0, j + 1, n, m, d, e, t, u, _, hr, hh, hr', hh', ho => by
    simp only [List.getElem?_cons_zero, List.getElem?_cons_succ, Option.some.injEq] at hr hh hr' hh'
    subst hr; subst hh
    simp only [sepB, Bool.and_eq_true] at hs
    exact sep1_get hs.1 hr' hh' ho
  | x :: ρ, y :: h, hs, i + 1, j + 1, n, m, d, e, t, u, hlt, hr, hh, hr', hh', ho => by
    simp only [List.getElem?_cons_succ] at hr hh hr' hh'
    exact sepB_get (ρ := ρ) (h := h) (sepB_tail hs) (by omega) hr hh hr' hh' ho
theorem sepB_ne {ρ : Rho} {h : Hp} (hs : sepB ρ h = true) {i j n m : Nat} {d e : Option Nat} {t u : AObj} (hij : i ≠ j) (hr : ρ[i]? = some (some (n, d))) (hh : h[i]? = some (some t)) (hr' : ρ[j]? = some (some (m, e))) (hh' : h[j]? = some (some u)) (ho : t.own = true ∨ u.own = true) : n ≠ m := by
  rcases Nat.lt_or_gt_of_ne hij with h1 | h1
  · exact sepB_get hs h1 hr hh hr' hh' ho
  · exact (sepB_get hs h1 hr' hh' hr hh ho.symm).symm

theorem getD_some {h : Hp} {n : Nat} {ob : AObj} (e : h.getD n none = some ob) : h[n]? = some (some ob) := by
  rw [List.getD_eq_getElem?_getD] at e
  cases hx : h[n]? with
  | none => rw [hx] at e; cases e
  | some y => rw [hx] at e; simp only [Option.getD_some] at e; rw [e]
theorem hpM_get {ρ : Rho} {s : Hp} : ∀ {ρ' : Rho} {t : Hp}, hpM ρ s ρ' t → ∀ {o : Nat} {ob : AObj}, t[o]? = some (some ob) →
    (ρ'[o]? = some none ∧ ob.cs = []) ∨ ∃ n d ob', ρ'[o]? = some (some (n, d)) ∧ s[n]? = some (some ob') ∧ obM ρ d ob ob'
  | [], [], _, o, ob, h => by simp at h
  | x :: ρ', y :: t, hm, 0, ob, h => by
    simp only [List.getElem?_cons_zero, Option.some.injEq] at h
    subst h
    cases x with
    | none => exact .inl ⟨rfl, hm.1⟩
    | some x =>
      obtain ⟨n, d⟩ := x
      have h1 := hm.1
      split at h1
      · rename_i ob' hob
        exact .inr ⟨n, d, ob', rfl, getD_some hob, h1⟩
      · exact h1.elim
  | x :: ρ', y :: t, hm, o + 1, ob, h => by
    simp only [List.getElem?_cons_succ] at h ⊢
    refine hpM_get (ρ' := ρ') (t := t) ?_ h
    cases x with
    | none => cases y with
      | none => exact hm
      | some y => exact hm.2
    | some x => cases y with
      | none => exact hm
      | some y => obtain ⟨a, b⟩ := x; exact hm.2
  | [], _ :: _, hm, _, _, _ => by cases hm
  | x :: _, [], hm, _, _, _ => by cases x with
    | none => cases hm
    | some x => obtain ⟨a, b⟩ := x; cases hm
theorem hpM_length {ρ : Rho} {s : Hp} : ∀ {ρ' : Rho} {t : Hp}, hpM ρ s ρ' t → ρ'.length = t.length
  | [], [], _ => rfl
  | x :: ρ', y :: t, hm => by
    have : hpM ρ s ρ' t := by
      cases x with
      | none => cases y with
        | none => exact hm
        | some y => exact hm.2
      | some x => cases y with
        | none => exact hm
        | some y => obtain ⟨a, b⟩ := x; exact hm.2
    simp [hpM_length this]
  | [], _ :: _, hm => by cases hm
  | x :: _, [], hm => by cases x with
    | none => cases hm
    | some x => obtain ⟨a, b⟩ := x; cases hm
theorem obM_own {ρ : Rho} {d : Option Nat} {t s : AObj} (h : obM ρ d t s) (ho : t.own = true) : d = none ∧ s.own = true := by
  cases d with
  | none => exact ⟨rfl, h.2.2.1 ho⟩
  | some d =>
    have : t.own = false := h.2.1
    rw [ho] at this; cases this
/-- The target's heap is in the world, too. -/
theorem hsim_M {β : Be} {ρ : Rho} {s t : Hp} {w : World} (hs : HSim β s w) (hm : hpM ρ s ρ t) (hsep : sepB ρ t = true) : HSim (beOf β ρ) t w := by
  refine ⟨by rw [beOf_length, hpM_length hm], fun o ob ho => ?_, fun o ob ho hf => ?_, fun o o' ob ob' p p' ho ho' hown hp hp' hne => ?_⟩
  · rcases hpM_get hm ho with ⟨hr, hcs⟩ | ⟨n, d, ob', hr, hn, hob⟩
    · exact ⟨none, beOf_get β hr, hcs⟩
    · obtain ⟨q, hq, hR⟩ := hs.ob n ob' hn
      cases d with
      | none =>
        obtain ⟨hesz, hty, hown, hcs⟩ := hob
        refine ⟨q, by rw [beOf_get β hr]; dsimp only; rw [List.getD_eq_getElem?_getD, hq]; rfl, ?_⟩
        cases q with
        | none =>
          have h0 : ob'.cs = [] := hR
          split at hcs
          · show ob.cs = []
            rw [← hcs.2, h0]
          · show ob.cs = []
            rw [h0] at hcs
            cases hc : ob.cs with
            | nil => rfl
            | cons => rw [hc] at hcs; exact hcs.elim
        | some p =>
          obtain ⟨he, arr, T, fz, hh, hc, ho2⟩ := hR
          refine ⟨he.trans hesz, arr, T, fz, hh, ?_, fun h => ?_⟩
          · split at hcs
            · rename_i hfl
              intro k c hk
              rw [← hcs.2] at hk
              obtain ⟨h1, h2⟩ := hc k c hk
              rw [hesz] at h1
              refine ⟨h1, fun j x hj => ?_⟩
              obtain ⟨v, hv, hr'⟩ := h2 j x hj
              rw [hesz] at hv
              exact ⟨v, hv, flat_R (flatC_mem.1 (hs.flat n ob' hn hcs.1 c (List.mem_of_getElem? hk)) x (List.mem_of_getElem? hj)) hr'⟩
            · intro k c hk
              obtain ⟨c', hk', hcm⟩ := csM_get hcs hk
              obtain ⟨h1, h2⟩ := hc k c' hk'
              rw [hesz] at h1
              refine ⟨(cM_length hcm).trans h1, fun j x hj => ?_⟩
              obtain ⟨x', hj', hxm⟩ := cM_get hcm hj
              obtain ⟨v, hv, hr'⟩ := h2 j x' hj'
              rw [hesz] at hv
              exact ⟨v, hv, scM_R hxm hr'⟩
          · obtain ⟨hT, hf, hb, ha⟩ := ho2 (hown h)
            exact ⟨hT.trans hty, hf, hb, ha⟩
      | some d =>
        obtain ⟨hesz, hno, hfl, hfl', hcs⟩ := hob
        refine ⟨q.map (fun p => { p with base := p.base + d * p.esz, avail := p.avail - d * p.esz }), by rw [beOf_get β hr]; dsimp only; rw [List.getD_eq_getElem?_getD, hq]; rfl, ?_⟩
        cases q with
        | none =>
          have h0 : ob'.cs = [] := hR
          show ob.cs = []
          rw [h0] at hcs
          simpa using hcs.symm
        | some p =>
          obtain ⟨he, arr, T, fz, hh, hc, ho2⟩ := hR
          refine ⟨he.trans hesz, arr, T, fz, hh, ?_, fun h => by rw [hno] at h; cases h⟩
          intro k c hk
          have hkl : k < ob.cs.length := (List.getElem?_eq_some_iff.1 hk).1
          rw [← hcs, List.getElem?_take_of_lt hkl, List.getElem?_drop] at hk
          obtain ⟨h1, h2⟩ := hc _ c hk
          rw [hesz] at h1
          refine ⟨h1, fun j x hj => ?_⟩
          obtain ⟨v, hv, hr'⟩ := h2 j x hj
          rw [hesz] at hv
          refine ⟨v, ?_, flat_R (flatC_mem.1 (hs.flat n ob' hn hfl' c (List.mem_of_getElem? hk)) x (List.mem_of_getElem? hj)) hr'⟩
          dsimp only
          rw [show p.base + d * p.esz + k * ob.esz + j = p.base + (d + k) * ob.esz + j from by rw [he, hesz, Nat.add_mul]; omega]
          exact hv
  · rcases hpM_get hm ho with ⟨hr, hcs⟩ | ⟨n, d, ob', hr, hn, hob⟩
    · rw [hcs]; intro c hc; cases hc
    · cases d with
      | none =>
        obtain ⟨_, _, _, hcs⟩ := hob
        rw [hf] at hcs
        rw [← hcs.2]
        exact hs.flat n ob' hn hcs.1
      | some d =>
        obtain ⟨_, _, hfl, hfl', hcs⟩ := hob
        rw [← hcs]
        exact fun c hc => hs.flat n ob' hn hfl' c (List.mem_of_mem_drop (List.mem_of_mem_take hc))
  · rcases hpM_get hm ho with ⟨hr, _⟩ | ⟨n, d, x, hr, hn, hx⟩
    · rw [beOf_get β hr] at hp; cases hp
    · rcases hpM_get hm ho' with ⟨hr', _⟩ | ⟨m, e, y, hr', hm', hy⟩
      · rw [beOf_get β hr'] at hp'; cases hp'
      · obtain ⟨rfl, hxo⟩ := obM_own hx hown
        have hnm := sepB_ne hsep hne hr ho hr' ho' (.inl hown)
        rw [beOf_get β hr] at hp
        simp only [Option.some.injEq] at hp
        have hbn : β[n]? = some (some p) := by
          rw [List.getD_eq_getElem?_getD] at hp
          cases h : β[n]? with
          | none => rw [h] at hp; cases hp
          | some z => rw [h] at hp; simp only [Option.getD_some] at hp; rw [hp]
        have hbm : ∃ q, β[m]? = some (some q) ∧ q.blk = p'.blk := by
          rw [beOf_get β hr'] at hp'
          simp only [Option.some.injEq] at hp'
          cases e with
          | none =>
            dsimp only at hp'
            rw [List.getD_eq_getElem?_getD] at hp'
            cases h : β[m]? with
            | none => rw [h] at hp'; cases hp'
            | some z => rw [h] at hp'; simp only [Option.getD_some] at hp'; exact ⟨p', by rw [hp'], rfl⟩
          | some e =>
            dsimp only at hp'
            rw [List.getD_eq_getElem?_getD] at hp'
            cases h : β[m]? with
            | none => rw [h] at hp'; cases hp'
            | some z =>
              rw [h] at hp'
              cases z with
              | none => cases hp'
              | some z => simp only [Option.getD_some, Option.map_some, Option.some.injEq] at hp'; exact ⟨z, rfl, by rw [← hp']⟩
        obtain ⟨q, hq, hqb⟩ := hbm
        rw [← hqb]
        exact hs.apart n m x y p q hn hm' hxo hbn hq hnm

/-! ### A state seen as another -/
def slM1 (ρ : Rho) : List (Option AV) → List (Option AV) → Prop
  | [], [] => True
  | none :: l, _ :: m => slM1 ρ l m
  | some a :: l, some b :: m => avM ρ a b ∧ slM1 ρ l m
  | _, _ => False
def slM (ρ : Rho) : Slots → Slots → Prop
  | [], [] => True
  | a :: l, b :: m => slM1 ρ a b ∧ slM ρ l m
  | _, _ => False
theorem slM1_length {ρ : Rho} : ∀ {t s : List (Option AV)}, slM1 ρ t s → t.length = s.length
  | [], [], _ => rfl
  | none :: l, _ :: m, h => by simp [slM1_length (t := l) (s := m) h]
  | some a :: l, some b :: m, h => by simp [slM1_length h.2]
  | some a :: l, none :: m, h => h.elim
  | [], _ :: _, h => h.elim
  | none :: _, [], h => h.elim
  | some _ :: _, [], h => h.elim
theorem slM1_get {ρ : Rho} : ∀ {t s : List (Option AV)} {i : Nat} {v : AV}, slM1 ρ t s → t[i]? = some (some v) → ∃ u, s[i]? = some (some u) ∧ avM ρ v u
  | [], [], i, v, _, h => by simp at h
  | none :: l, _ :: m, 0, v, _, h => by simp at h
  | none :: l, _ :: m, i + 1, v, hm, h => by simp at h; obtain ⟨u, hu, hr⟩ := slM1_get (t := l) (s := m) hm h; exact ⟨u, by simpa using hu, hr⟩
  | some a :: l, some b :: m, 0, v, hm, h => by simp at h; subst h; exact ⟨b, by simp, hm.1⟩
  | some a :: l, some b :: m, i + 1, v, hm, h => by simp at h; obtain ⟨u, hu, hr⟩ := slM1_get hm.2 h; exact ⟨u, by simpa using hu, hr⟩
  | some a :: l, none :: m, _, _, h, _ => h.elim
  | [], _ :: _, _, _, h, _ => h.elim
  | none :: _, [], _, _, h, _ => h.elim
  | some _ :: _, [], _, _, h, _ => h.elim
theorem slM_chunk {ρ : Rho} : ∀ {t s : Slots} (i : Nat), slM ρ t s → (t[i]? = none ∧ s[i]? = none) ∨ ∃ a b, t[i]? = some a ∧ s[i]? = some b ∧ slM1 ρ a b
  | [], [], i, _ => .inl ⟨by simp, by simp⟩
  | a :: l, b :: m, 0, h => .inr ⟨a, b, by simp, by simp, h.1⟩
  | a :: l, b :: m, i + 1, h => by simpa using slM_chunk i h.2
  | [], _ :: _, _, h => h.elim
  | _ :: _, [], _, h => h.elim
theorem slots_M {β : Be} {ρ : Rho} {t s : Slots} {tm : Array Value} (h : slM ρ t s) (hs : SlotsR β s tm) : SlotsR (beOf β ρ) t tm := by
  have hhas : ∀ i, t.has i → s.has i := by
    intro i hi
    unfold Slots.has at hi ⊢
    rw [List.getD_eq_getElem?_getD] at hi ⊢
    rcases slM_chunk (i / 16) h with ⟨h1, h2⟩ | ⟨a, b, h1, h2, h3⟩
    · rw [h1] at hi; simp at hi
    · rw [h1] at hi
      rw [h2]
      simp only [Option.getD_some] at hi ⊢
      rw [← slM1_length h3]
      exact hi
  refine ⟨fun i hi => hs.1 i (hhas i hi), fun i v hv => ?_⟩
  unfold Slots.get at hv
  rw [List.getD_eq_getElem?_getD (l := t)] at hv
  rcases slM_chunk (i / 16) h with ⟨h1, h2⟩ | ⟨a, b, h1, h2, h3⟩
  · rw [h1] at hv; simp at hv
  · rw [h1, Option.getD_some, List.getD_eq_getElem?_getD] at hv
    have hv' : a[i % 16]? = some (some v) := by
      cases hx : a[i % 16]? with
      | none => rw [hx] at hv; cases hv
      | some y => rw [hx] at hv; simp only [Option.getD_some] at hv; rw [hv]
    obtain ⟨u, hu, hr⟩ := slM1_get h3 hv'
    have hg : s.get i = some u := by
      unfold Slots.get
      rw [List.getD_eq_getElem?_getD (l := s), h2, Option.getD_some, List.getD_eq_getElem?_getD, hu]
      rfl
    obtain ⟨x, hx, hxr⟩ := hs.2 i u hg
    exact ⟨x, hx, avM_R hr hxr⟩
def idB : Nat → Nat → Rho → Bool
  | 0, n0, ρ => ρ.all fun | some (n, none) => decide (n0 ≤ n) | some (_, some _) => false | none => true
  | k + 1, n0, some (n, none) :: ρ => n == n0 && idB k (n0 + 1) ρ
  | _, _, _ => false
/-- The target t seen in the source s, in a call that began with n0 objects. -/
def WeakS (ρ : Rho) (n0 : Nat) (t s : S) : Prop := idB n0 0 ρ = true ∧ sepB ρ t.hp = true ∧ slM ρ t.sl s.sl ∧ hpM ρ s.hp ρ t.hp
theorem idB_lt : ∀ {k n0 : Nat} {ρ : Rho}, idB k n0 ρ = true → (∀ i, i < k → ρ[i]? = some (some (n0 + i, none))) ∧ (∀ i n d, k ≤ i → ρ[i]? = some (some (n, d)) → d = none ∧ n0 + k ≤ n)
  | 0, n0, ρ, h => by
    refine ⟨fun i hi => by omega, fun i n d _ hr => ?_⟩
    have := List.all_eq_true.1 (by simpa [idB] using h) _ (List.mem_of_getElem? hr)
    cases d with
    | none => exact ⟨rfl, by simpa using this⟩
    | some d => cases this
  | k + 1, n0, ρ, h => by
    cases ρ with
    | nil => cases h
    | cons x ρ =>
      cases x with
      | none => cases h
      | some x =>
        obtain ⟨n, d⟩ := x
        cases d with
        | some d => cases h
        | none =>
          simp only [idB, Bool.and_eq_true, beq_iff_eq] at h
          obtain ⟨rfl, h⟩ := h
          obtain ⟨h1, h2⟩ := idB_lt h
          refine ⟨fun i hi => ?_, fun i m d hi hr => ?_⟩
          · cases i with
            | zero => simp
            | succ i =>
              rw [List.getElem?_cons_succ, h1 i (by omega)]
              simp only [Option.some.injEq, Prod.mk.injEq, and_true]
              omega
          · cases i with
            | zero => omega
            | succ i =>
              rw [List.getElem?_cons_succ] at hr
              obtain ⟨h3, h4⟩ := h2 i m d (by omega) hr
              exact ⟨h3, by omega⟩
theorem sim_weak {E : Entry} {n0 : Nat} (hE : E.h.length = n0) {ρ : Rho} {t s : S} (h : WeakS ρ n0 t s) {β : Be} {a : Act} {w : World} (hs : Sim E β s a w) : Sim E (beOf β ρ) t a w := by
  obtain ⟨hid, hsep, hsl, hhp⟩ := h
  obtain ⟨hlo, hhi⟩ := idB_lt hid
  have hlen := hpM_length hhp
  have hl0 : n0 ≤ t.hp.length := by
    rw [← hlen]
    rcases Nat.lt_or_ge ρ.length n0 with h1 | h1
    · have := hlo ρ.length h1
      rw [List.getElem?_eq_none (Nat.le_refl _)] at this
      cases this
    · exact h1
  refine ⟨hs.dfr, slots_M hsl hs.sl, hsim_M hs.hp hhp hsep, hs.ent, ?_⟩
  have st := hs.st
  refine ⟨fun o p hp => ?_, st.os, st.tape, st.output, st.size, st.block, by rw [hE]; exact hl0, fun o ob hlt ho => ?_, fun o ob p hge ho hp => ?_⟩
  · have hlt : o < n0 := by rw [← hE, ← hs.ent]; exact (List.getElem?_eq_some_iff.1 hp).1
    have h1 := hlo o hlt
    rw [Nat.zero_add] at h1
    rw [beOf_get β h1]
    dsimp only
    rw [List.getD_eq_getElem?_getD, st.le o p hp]
    rfl
  · rw [hE] at hlt
    have h1 := hlo o hlt
    rw [Nat.zero_add] at h1
    rcases hpM_get hhp ho with ⟨hr, _⟩ | ⟨n, d, ob', hr, hn, hob⟩
    · rw [h1] at hr; cases hr
    · rw [h1] at hr
      simp only [Option.some.injEq, Prod.mk.injEq] at hr
      obtain ⟨rfl, rfl⟩ := hr
      obtain ⟨ob0, ho0, hown0⟩ := st.old o ob' (by rw [hE]; exact hlt) hn
      exact ⟨ob0, ho0, fun h => hown0 (obM_own hob h).2⟩
  · rw [hE] at hge
    rcases hpM_get hhp ho with ⟨hr, _⟩ | ⟨n, d, ob', hr, hn, hob⟩
    · rw [beOf_get β hr] at hp; cases hp
    · obtain ⟨rfl, hge'⟩ := hhi o n d hge hr
      rw [beOf_get β hr] at hp
      simp only [Option.some.injEq] at hp
      rw [List.getD_eq_getElem?_getD] at hp
      have hb : β[n]? = some (some p) := by
        cases h : β[n]? with
        | none => rw [h] at hp; cases hp
        | some z => rw [h] at hp; simp only [Option.getD_some] at hp; rw [hp]
      exact st.fresh n ob' p (by rw [hE]; omega) hn hb
theorem den_weak {P : Program} {E : Entry} {n0 : Nat} (hE : E.h.length = n0) {ρ : Rho} {t s : S} (h : WeakS ρ n0 t s) {C : Code} {K : Exit → S → Prop} (hd : Den P E C t K) : Den P E C s K :=
  fun β a w hs Q hQ => hd _ a w (sim_weak hE h hs) Q hQ
/-- A state with some slots forgotten, some set, and the heap turned. -/
def S.kill (l : Slots) : List Nat → Slots
  | [] => l
  | k :: r => S.kill (l.put k none) r
def S.sets (l : Slots) : List (Nat × AV) → Slots
  | [] => l
  | (k, v) :: r => S.sets (l.put k (some v)) r
def S.at (s : S) (kill : List Nat) (set : List (Nat × AV)) (h : Hp) : S := ⟨S.sets (S.kill s.sl kill) set, h⟩
theorem den_lp {P : Program} {E : Entry} {F : S → Prop} {b : Code} {k : List Item} {s : S} {c : Prop} {ι : Type} (n0 : Nat) (hE : E.h.length = n0) (mk : S → ι → S) (J : ι → Prop) (μ : ι → Nat) (i0 : ι) (ρ0 : Rho) (hc : c) (hJ : J i0) (h0 : WeakS ρ0 n0 (mk s i0) s)
    (h : ∀ i, J i → ∀ N : S → Prop, (∀ (s' : S) (j : ι) (ρ : Rho), J j → μ j < μ i → WeakS ρ n0 (mk s j) s' → N s') → den P E F (.go (.code b :: .hook N :: k) (mk s i) True)) : den P E F (.lp b k s c) := by
  refine ⟨hc, den_loop (fun _ => True) (fun s' n => ∃ i ρ, J i ∧ WeakS ρ n0 (mk s i) s' ∧ μ i = n) (μ i0) ⟨trivial, i0, ρ0, hJ, h0, rfl⟩ fun s' n _ ⟨i, ρ, hi, hw, hn⟩ => ?_⟩
  have hd := (h i hi (fun s'' => ∃ j ρ, J j ∧ μ j < μ i ∧ WeakS ρ n0 (mk s j) s'') fun s'' j ρ' hj hlt hw' => ⟨j, ρ', hj, hlt, hw'⟩).2
  refine den_weak hE hw (den_mono hd fun e s'' hk => ?_)
  cases e with
  | normal =>
    obtain ⟨j, ρ', hj, hlt, hw'⟩ := hk
    exact ⟨trivial, μ j, by omega, j, ρ', hj, hw', rfl⟩
  | _ => exact hk
theorem weak_mk {ρ : Rho} {n0 : Nat} {t s : S} (h1 : idB n0 0 ρ = true) (h2 : sepB ρ t.hp = true) (h : slM ρ t.sl s.sl ∧ hpM ρ s.hp ρ t.hp) : WeakS ρ n0 t s := ⟨h1, h2, h.1, h.2⟩
/-- A cut: the code that follows, at a state that is seen in this one. -/
theorem den_cut {P : Program} {E : Entry} {F : S → Prop} {C : Code} {k : List Item} {s : S} {c : Prop} (n0 : Nat) (hE : E.h.length = n0) (t : S) (ρ : Rho) (hc : c) (hw : WeakS ρ n0 t s) (h : den P E F (.go (.code C :: k) t True)) : den P E F (.go (.code C :: k) s c) :=
  ⟨hc, den_weak hE hw h.2⟩
end Go.Proofs.YtoghbjbfldlfpaaGreat
