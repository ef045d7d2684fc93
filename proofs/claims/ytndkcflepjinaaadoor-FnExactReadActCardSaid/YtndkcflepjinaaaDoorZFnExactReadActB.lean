/-
  Texts merged for this claim by shake.py: what its proof needs.
-/
import Derived.WalkKit
import Derived.ProofKit
import Derived.ShutString
import Derived.OpenShut
import Derived.ChangeOld
import Derived.Below
import Derived.Carry
import Derived.Tactics
import Derived.Laws.AppendOwn
import Derived.Laws.OwnMore
import Derived.Laws.Slices
import Derived.Laws.Small
import Derived.Laws.Strings
import Derived.KernelRfl
import Derived.Laws.MakeOwn
import Derived.Laws.BytesString
import Derived.Laws.BytesArg
import Derived.Laws.Build
import Derived.Laws.Concat
import Derived.Laws.StructEq
import Derived.Lib.ConvBytes
import Derived.Test.YtndkcflepjinaaaDoorChecked
import Derived.Orders
import Derived.Laws.BitsLemmas
import Derived.StillTail
import Derived.Test.YtndkcflepjinaaaDoorRows
import Derived.Test.YtndkcflepjinaaaDoorCards
import Derived.Test.YtndkcflepjinaaaDoorTie
import Derived.ChangeVars
import Derived.LaidMore
import Derived.Lay
import Derived.SevenTiedAt
import Derived.Stop.Joined
import Derived.Test.YtndkcflepjinaaaDoorZFnExactReadActA
namespace Go.Proofs.YtndkcflepjinaaaDoor
section
open Go.RowKit
set_option linter.unusedVariables false
set_option linter.unusedSimpArgs false

/-- Where a name of the callee's lies with the caller, who had N objects. -/
def nameAt (ρ : Rho) (N o : Nat) : Option (Nat × Option Nat) := if o < ρ.length then ρ.at o else some (N + (o - ρ.length), none)
def renSc (ρ : Rho) (N : Nat) : Sc → Sc
  | .sl o off len => match nameAt ρ N o with
    | some (n, none) => .sl n off len
    | some (n, some d) => .sl n (off + d) len
    | none => .nil
  | .pt o k j => match nameAt ρ N o with
    | some (n, none) => .pt n k j
    | some (n, some d) => .pt n (k + d) j
    | none => .nil
  | .int k n => .int k n
  | .bo b => .bo b
  | .st l => .st l
  | .nil => .nil
  | .un => .un
def renC (ρ : Rho) (N : Nat) : List Sc → List Sc
  | [] => []
  | a :: l => renSc ρ N a :: renC ρ N l
def renCo (ρ : Rho) (N : Nat) : Co → Co
  | .sc a => .sc (renSc ρ N a)
  | .ag l => .ag (renC ρ N l)
def renTu (ρ : Rho) (N : Nat) : List Co → List Co
  | [] => []
  | a :: l => renCo ρ N a :: renTu ρ N l
def renAV (ρ : Rho) (N : Nat) : AV → AV
  | .sc a => .sc (renSc ρ N a)
  | .ag l => .ag (renC ρ N l)
  | .tu l => .tu (renTu ρ N l)
  | .cl f l => .cl f (renC ρ N l)
def renCs (ρ : Rho) (N : Nat) : List (List Sc) → List (List Sc)
  | [] => []
  | a :: l => renC ρ N a :: renCs ρ N l
def renOb (ρ : Rho) (N : Nat) (ob : AObj) : AObj :=
  match ob.fl with
  | true => ob
  | false => { ob with cs := renCs ρ N ob.cs }
def renHp (ρ : Rho) (N : Nat) : Hp → Hp
  | [] => []
  | none :: h => none :: renHp ρ N h
  | some ob :: h => some (renOb ρ N ob) :: renHp ρ N h
def optOb (ρ : Rho) (N : Nat) : Option AObj → Option AObj
  | none => none
  | some ob => some (renOb ρ N ob)
/-- The caller's objects behind the call. -/
def updH (ρ0 : Rho) (N : Nat) : Rho → Hp → Hp → Hp → Hp
  | some (n, _) :: ρ, some t :: h, t' :: h', s => match t.own with
    | true => updH ρ0 N ρ h h' (s.set n (optOb ρ0 N t'))
    | false => updH ρ0 N ρ h h' s
  | _ :: ρ, _ :: h, _ :: h', s => updH ρ0 N ρ h h' s
  | _, _, _, s => s
/-- The caller's heap behind the call. -/
def hpCall (ρ : Rho) (h0 h0' s : Hp) : Hp := updH ρ s.length ρ h0 h0' s ++ renHp ρ s.length (h0'.drop h0.length)

theorem updH_length (ρ0 : Rho) (N : Nat) : ∀ (ρ : Rho) (h h' s : Hp), (updH ρ0 N ρ h h' s).length = s.length
  | [], _, _, s => by simp [updH]
  | x :: ρ, [], _, s => by cases x <;> simp [updH]
  | x :: ρ, y :: h, [], s => by cases x <;> cases y <;> simp [updH]
  | none :: ρ, y :: h, z :: h', s => by cases y <;> simp [updH, updH_length ρ0 N ρ h h' s]
  | some x :: ρ, none :: h, z :: h', s => by simp [updH, updH_length ρ0 N ρ h h' s]
  | some (n, d) :: ρ, some t :: h, z :: h', s => by
    cases ho : t.own
    · simp [updH, ho, updH_length ρ0 N ρ h h' s]
    · simp [updH, ho, updH_length ρ0 N ρ h h' (s.set n (optOb ρ0 N z))]
theorem updH_other {ρ0 : Rho} {N o : Nat} : ∀ {ρ : Rho} {h h' s : Hp}, (∀ (i : Nat) (d : Option Nat) (t : AObj), ρ[i]? = some (some (o, d)) → h[i]? = some (some t) → t.own = false) → (updH ρ0 N ρ h h' s)[o]? = s[o]?
  | [], _, _, s, _ => by simp [updH]
  | x :: ρ, [], _, s, _ => by cases x <;> simp [updH]
  | x :: ρ, y :: h, [], s, _ => by cases x <;> cases y <;> simp [updH]
  | none :: ρ, y :: h, z :: h', s, hx => by
    cases y <;> simpa [updH] using updH_other (ρ := ρ) (h := h) (h' := h') (s := s) (fun i d t h1 h2 => hx (i + 1) d t (by simpa using h1) (by simpa using h2))
  | some x :: ρ, none :: h, z :: h', s, hx => by
    simpa [updH] using updH_other (ρ := ρ) (h := h) (h' := h') (s := s) (fun i d t h1 h2 => hx (i + 1) d t (by simpa using h1) (by simpa using h2))
  | some (n, d) :: ρ, some t :: h, z :: h', s, hx => by
    cases ho : t.own
    · simpa [updH, ho] using updH_other (ρ := ρ) (h := h) (h' := h') (s := s) (fun i d t h1 h2 => hx (i + 1) d t (by simpa using h1) (by simpa using h2))
    · have hne : n ≠ o := fun e => by
        subst e
        have := hx 0 d t (by simp) (by simp)
        rw [ho] at this; cases this
      have := updH_other (ρ0 := ρ0) (N := N) (ρ := ρ) (h := h) (h' := h') (s := s.set n (optOb ρ0 N z)) (fun i d t h1 h2 => hx (i + 1) d t (by simpa using h1) (by simpa using h2))
      simp only [updH, ho]
      rw [this, List.getElem?_set_ne hne]
theorem updH_own {ρ0 : Rho} {N o : Nat} : ∀ {ρ : Rho} {h h' s : Hp}, sepB ρ h = true → o < s.length → ∀ {i : Nat} {d : Option Nat} {t : AObj} {x : Option AObj}, ρ[i]? = some (some (o, d)) → h[i]? = some (some t) → t.own = true → h'[i]? = some x → (updH ρ0 N ρ h h' s)[o]? = some (optOb ρ0 N x)
  | [], _, _, s, _, _, i, d, t, x, h1, _, _, _ => by simp at h1
  | _ :: _, [], _, s, _, _, i, d, t, x, _, h2, _, _ => by simp at h2
  | _ :: _, _ :: _, [], s, _, _, i, d, t, x, _, _, _, h4 => by simp at h4
  | y :: ρ, u :: h, z :: h', s, hs, hlt, 0, d, t, x, h1, h2, h3, h4 => by
    simp only [List.getElem?_cons_zero, Option.some.injEq] at h1 h2 h4
    subst h1; subst h2; subst h4
    have hx : ∀ (i : Nat) (d' : Option Nat) (t' : AObj), ρ[i]? = some (some (o, d')) → h[i]? = some (some t') → t'.own = false := by
      intro i d' t' k1 k2
      cases ho : t'.own with
      | false => rfl
      | true => exact absurd rfl (sepB_get (n := o) (m := o) (d := d) (e := d') (t := t) (u := t') hs (show 0 < i + 1 by omega) (by simp) (by simp) (by simpa using k1) (by simpa using k2) (.inl h3))
    simp only [updH, h3]
    rw [updH_other hx, List.getElem?_set_self hlt]
  | y :: ρ, u :: h, z :: h', s, hs, hlt, i + 1, d, t, x, h1, h2, h3, h4 => by
    simp only [List.getElem?_cons_succ] at h1 h2 h4
    cases y with
    | none => cases u <;> simpa [updH] using updH_own (ρ := ρ) (h := h) (h' := h') (s := s) (sepB_tail hs) hlt h1 h2 h3 h4
    | some y =>
      obtain ⟨n, e⟩ := y
      cases u with
      | none => simpa [updH] using updH_own (ρ := ρ) (h := h) (h' := h') (s := s) (sepB_tail hs) hlt h1 h2 h3 h4
      | some u =>
        cases ho : u.own
        · simpa [updH, ho] using updH_own (ρ := ρ) (h := h) (h' := h') (s := s) (sepB_tail hs) hlt h1 h2 h3 h4
        · simpa [updH, ho] using updH_own (ρ := ρ) (h := h) (h' := h') (s := s.set n (optOb ρ0 N z)) (sepB_tail hs) (by simpa using hlt) h1 h2 h3 h4
theorem renHp_get (ρ : Rho) (N : Nat) : ∀ (h : Hp) (o : Nat), (renHp ρ N h)[o]? = (h[o]?).map (optOb ρ N)
  | [], o => by simp [renHp]
  | none :: h, 0 => by simp [renHp, optOb]
  | some ob :: h, 0 => by simp [renHp, optOb]
  | none :: h, o + 1 => by simpa [renHp] using renHp_get ρ N h o
  | some ob :: h, o + 1 => by simpa [renHp] using renHp_get ρ N h o

/-- The β behind the call. -/
def beCall (β β0' : Be) (n : Nat) : Be := β ++ β0'.drop n
section
variable {β β0' : Be} {ρ : Rho} {N : Nat}
theorem beCall_new (hN : β.length = N) {o : Nat} (ho : ρ.length ≤ o) : (beCall β β0' ρ.length)[N + (o - ρ.length)]? = β0'[o]? := by
  unfold beCall
  rw [List.getElem?_append_right (by omega), List.getElem?_drop]
  congr 1
  omega
theorem beCall_old {o : Nat} (ho : o < β.length) : (beCall β β0' ρ.length)[o]? = β[o]? := by
  unfold beCall
  rw [List.getElem?_append_left ho]
theorem getD_at {β : Be} {n : Nat} {p : Pl} (h : β.getD n none = some p) : β[n]? = some (some p) := by
  rw [List.getD_eq_getElem?_getD] at h
  cases hx : β[n]? with
  | none => rw [hx] at h; cases h
  | some y => rw [hx] at h; simp only [Option.getD_some] at h; rw [h]
/-- A name's place, told to the caller. -/
theorem name_place (hN : β.length = N) (hle : Be.le (beOf β ρ) β0') {o : Nat} {p : Pl} (hp : β0'[o]? = some (some p)) :
    ∃ (n : Nat) (d : Option Nat) (q : Pl), nameAt ρ N o = some (n, d) ∧ (beCall β β0' ρ.length)[n]? = some (some q) ∧ p = (match d with
      | none => q
      | some d => { q with base := q.base + d * q.esz, avail := q.avail - d * q.esz }) := by
  unfold nameAt
  by_cases hlt : o < ρ.length
  · rw [if_pos hlt]
    have hx : ρ[o]? = some ρ[o] := List.getElem?_eq_getElem hlt
    have hb := hle _ _ (beOf_get β hx)
    rw [hp] at hb
    simp only [Option.some.injEq] at hb
    have hat : ρ.at o = ρ[o] := by unfold Rho.at; rw [List.getD_eq_getElem?_getD, hx]; rfl
    rw [hat]
    cases hr : ρ[o] with
    | none => rw [hr] at hb; cases hb
    | some x =>
      obtain ⟨n, d⟩ := x
      rw [hr] at hb
      cases d with
      | none =>
        dsimp only at hb
        have h1 := getD_at hb.symm
        exact ⟨n, none, p, rfl, by rw [beCall_old (List.getElem?_eq_some_iff.1 h1).1]; exact h1, rfl⟩
      | some d =>
        dsimp only at hb
        cases hg : β.getD n none with
        | none => rw [hg] at hb; cases hb
        | some q =>
          rw [hg] at hb
          simp only [Option.map_some, Option.some.injEq] at hb
          have h1 := getD_at hg
          exact ⟨n, some d, q, rfl, by rw [beCall_old (List.getElem?_eq_some_iff.1 h1).1]; exact h1, hb⟩
  · rw [if_neg hlt]
    exact ⟨N + (o - ρ.length), none, p, rfl, by rw [beCall_new hN (by omega)]; exact hp, rfl⟩
theorem renSc_R (hN : β.length = N) (hle : Be.le (beOf β ρ) β0') : ∀ {s : Sc} {v : Value}, ScR β0' s v → ScR (beCall β β0' ρ.length) (renSc ρ N s) v
  | .int .., _, h => h
  | .bo _, _, h => h
  | .st _, _, h => h
  | .nil, _, h => h
  | .un, _, h => h
  | .sl o off len, v, ⟨a, cap, hv, h1, h2, h3⟩ => by
    rcases h3 with h3 | ⟨p, hp, ha, hav⟩
    · subst h3
      have : len = 0 := by omega
      subst this
      subst hv
      simp only [renSc]
      split
      · exact ⟨a, 0, rfl, Nat.le_refl _, h2, .inl rfl⟩
      · exact ⟨a, 0, rfl, Nat.le_refl _, h2, .inl rfl⟩
      · exact ⟨a, rfl⟩
    · obtain ⟨n, d, q, hn, hq, hpq⟩ := name_place hN hle hp
      simp only [renSc, hn]
      cases d with
      | none =>
        dsimp only at hpq
        subst hpq
        exact ⟨a, cap, hv, h1, h2, .inr ⟨p, hq, ha, hav⟩⟩
      | some d =>
        dsimp only at hpq
        subst hpq
        dsimp only at ha hav
        by_cases hc : cap = 0
        · exact ⟨a, cap, hv, h1, h2, .inl hc⟩
        · refine ⟨a, cap, hv, h1, h2, ?_⟩
          by_cases hz : q.esz = 0
          · refine .inr ⟨q, hq, ?_, ?_⟩
            · rw [ha, hz]; simp
            · rw [hz]; simp
          · refine .inr ⟨q, hq, ?_, ?_⟩
            · rw [ha]
              simp only [Option.some.injEq, Addr.mk.injEq, and_true, true_and]
              rw [Nat.add_mul]
              omega
            · have hpos : 0 < (off + cap) * q.esz := Nat.mul_pos (by omega) (by omega)
              rw [show off + d + cap = (off + cap) + d from by omega, Nat.add_mul]
              omega
  | .pt o k j, v, ⟨p, hp, hv⟩ => by
    obtain ⟨n, d, q, hn, hq, hpq⟩ := name_place hN hle hp
    simp only [renSc, hn]
    cases d with
    | none =>
      dsimp only at hpq
      subst hpq
      exact ⟨p, hq, hv⟩
    | some d =>
      dsimp only at hpq
      subst hpq
      refine ⟨q, hq, ?_⟩
      rw [hv]
      simp only [Value.pointer.injEq, Option.some.injEq, Addr.mk.injEq, and_true, true_and]
      rw [Nat.add_mul]
      omega
theorem renC_R (hN : β.length = N) (hle : Be.le (beOf β ρ) β0') : ∀ {s : List Sc} {vs : List Value}, L2 (ScR β0') s vs → L2 (ScR (beCall β β0' ρ.length)) (renC ρ N s) vs
  | [], [], _ => trivial
  | a :: l, v :: vs, h => ⟨renSc_R hN hle h.1, renC_R hN hle h.2⟩
  | [], _ :: _, h => h.elim
  | _ :: _, [], h => h.elim
theorem renCo_R (hN : β.length = N) (hle : Be.le (beOf β ρ) β0') {s : Co} {v : Value} (h : CoR β0' s v) : CoR (beCall β β0' ρ.length) (renCo ρ N s) v := by
  cases s with
  | sc s => exact renSc_R hN hle h
  | ag l => obtain ⟨vs, hv, hl⟩ := h; exact ⟨vs, hv, renC_R hN hle hl⟩
theorem renTu_R (hN : β.length = N) (hle : Be.le (beOf β ρ) β0') : ∀ {s : List Co} {vs : List Value}, L2 (CoR β0') s vs → L2 (CoR (beCall β β0' ρ.length)) (renTu ρ N s) vs
  | [], [], _ => trivial
  | a :: l, v :: vs, h => ⟨renCo_R hN hle h.1, renTu_R hN hle h.2⟩
  | [], _ :: _, h => h.elim
  | _ :: _, [], h => h.elim
theorem renAV_R (hN : β.length = N) (hle : Be.le (beOf β ρ) β0') {s : AV} {v : Value} (h : AVR β0' s v) : AVR (beCall β β0' ρ.length) (renAV ρ N s) v := by
  cases s with
  | sc s => exact renSc_R hN hle h
  | ag l => obtain ⟨vs, hv, hl⟩ := h; exact ⟨vs, hv, renC_R hN hle hl⟩
  | tu l => obtain ⟨vs, hv, hl⟩ := h; exact ⟨vs, hv, renTu_R hN hle hl⟩
  | cl f l => obtain ⟨vs, hv, hl⟩ := h; exact ⟨vs, hv, renC_R hN hle hl⟩
theorem renC_get (ρ : Rho) (N : Nat) : ∀ (l : List Sc) (i : Nat), (renC ρ N l)[i]? = (l[i]?).map (renSc ρ N)
  | [], i => by simp [renC]
  | a :: l, 0 => by simp [renC]
  | a :: l, i + 1 => by simpa [renC] using renC_get ρ N l i
theorem renC_length (ρ : Rho) (N : Nat) : ∀ (l : List Sc), (renC ρ N l).length = l.length
  | [] => rfl
  | a :: l => by simp [renC, renC_length ρ N l]
theorem renCs_get (ρ : Rho) (N : Nat) : ∀ (l : List (List Sc)) (i : Nat), (renCs ρ N l)[i]? = (l[i]?).map (renC ρ N)
  | [], i => by simp [renCs]
  | a :: l, 0 => by simp [renCs]
  | a :: l, i + 1 => by simpa [renCs] using renCs_get ρ N l i
theorem renOb_same (ob : AObj) : (renOb ρ N ob).esz = ob.esz ∧ (renOb ρ N ob).ty = ob.ty ∧ (renOb ρ N ob).own = ob.own ∧ (renOb ρ N ob).fl = ob.fl := by
  unfold renOb
  split <;> simp_all
/-- An object, told to the caller. -/
theorem renOb_R (hN : β.length = N) (hle : Be.le (beOf β ρ) β0') {w : World} {p : Option Pl} {ob : AObj} (h : ObR β0' w p ob) (hflat : ob.fl = true → FlatL ob.cs) : ObR (beCall β β0' ρ.length) w p (renOb ρ N ob) := by
  obtain ⟨e1, e2, e3, e4⟩ := renOb_same (ρ := ρ) (N := N) ob
  cases p with
  | none =>
    have h0 : ob.cs = [] := h
    show (renOb ρ N ob).cs = []
    unfold renOb
    split
    · exact h0
    · rw [h0]; rfl
  | some p =>
    obtain ⟨he, arr, T, fz, hh, hc, ho⟩ := h
    refine ⟨by rw [e1]; exact he, arr, T, fz, hh, ?_, by rw [e2, e3]; exact ho⟩
    rw [e1]
    unfold renOb
    split
    · rename_i hf
      exact fun k c hk => ⟨(hc k c hk).1, fun j s hs => let ⟨v, hv, hr⟩ := (hc k c hk).2 j s hs; ⟨v, hv, flat_R (flatC_mem.1 (hflat hf c (List.mem_of_getElem? hk)) s (List.mem_of_getElem? hs)) hr⟩⟩
    · intro k c hk
      dsimp only at hk
      rw [renCs_get] at hk
      simp only [Option.map_eq_some_iff] at hk
      obtain ⟨c0, hk0, rfl⟩ := hk
      obtain ⟨h1, h2⟩ := hc k c0 hk0
      refine ⟨by rw [renC_length]; exact h1, fun j s hs => ?_⟩
      rw [renC_get] at hs
      simp only [Option.map_eq_some_iff] at hs
      obtain ⟨s0, hs0, rfl⟩ := hs
      obtain ⟨v, hv, hr⟩ := h2 j s0 hs0
      exact ⟨v, hv, renSc_R hN hle hr⟩
end
theorem own_M {β : Be} {ρ : Rho} {s t : Hp} (hm : hpM ρ s ρ t) {k : Nat} (h : Own (beOf β ρ) t k) : ∃ (i n : Nat) (ob' : AObj) (p : Pl), ρ[i]? = some (some (n, none)) ∧ s[n]? = some (some ob') ∧ ob'.own = true ∧ β[n]? = some (some p) ∧ (beOf β ρ)[i]? = some (some p) ∧ p.blk = k ∧ ∃ ob : AObj, t[i]? = some (some ob) ∧ ob.own = true := by
  obtain ⟨i, ob, p, ho, hown, hp, rfl⟩ := h
  rcases hpM_get hm ho with ⟨hr, _⟩ | ⟨n, d, ob', hr, hn, hob⟩
  · rw [beOf_get β hr] at hp; cases hp
  · obtain ⟨rfl, hown'⟩ := obM_own hob hown
    have hp' := hp
    rw [beOf_get β hr] at hp'
    simp only [Option.some.injEq] at hp'
    exact ⟨i, n, ob', p, hr, hn, hown', getD_at hp', hp, rfl, ob, ho, hown⟩
/-- The contract, at the caller's heap. -/
theorem callW_at {P : Program} {f : FuncId} {args0 avs : List AV} {h0 h0' s : Hp} {res0 : AV} (ρ : Rho) (hargs : avsM ρ args0 avs) (hm : hpM ρ s ρ h0) (hsep : sepB ρ h0 = true) {β : Be} {w : World} {vs : List Value}
    (hcall : ∀ vs, HSim (beOf β ρ) h0 w → L2 (AVR (beOf β ρ)) args0 vs → Calls P f vs.toArray w fun e w' => ∃ β' v, e = .returned v ∧ AVR β' res0 v ∧ HSim β' h0' w' ∧ StepR (beOf β ρ) β' h0 h0' w w') (hs : HSim β s w) (hvs : L2 (AVR β) avs vs) :
    Calls P f vs.toArray w fun e w' => ∃ β' v, e = .returned v ∧ AVR β' (renAV ρ s.length res0) v ∧ HSim β' (hpCall ρ h0 h0' s) w' ∧ StepR β β' s (hpCall ρ h0 h0' s) w w' := by
  have hlen : ρ.length = h0.length := hpM_length hm
  refine (hcall vs (hsim_M hs hm hsep) (avsM_R hargs hvs)).mono fun e w' ⟨β0', v, he, hr, hh, hst⟩ => ?_
  have hN : β.length = s.length := hs.len
  have hle := hst.le
  have hl0' : h0.length ≤ h0'.length := hst.len
  -- blocks that were there stay, but for what the callee owned
  have hblk : ∀ {o : Nat} {ob : AObj} {p : Pl}, s[o]? = some (some ob) → β[o]? = some (some p) → (∀ (i : Nat) (d : Option Nat) (t : AObj), ρ[i]? = some (some (o, d)) → h0[i]? = some (some t) → t.own = false) → w'.heap[p.blk]? = w.heap[p.blk]? := by
    intro o ob p ho hp hx
    obtain ⟨q, hq, hR⟩ := hs.ob o ob ho
    rw [hp] at hq; cases hq
    refine hst.block _ hR.lt fun hown => ?_
    obtain ⟨i, n, ob', q, hr1, hn, hown', hq, _, hqb, t, ht, hto⟩ := own_M hm hown
    by_cases hno : n = o
    · subst hno
      have := hx i none t hr1 ht
      rw [hto] at this; cases this
    · exact hs.apart n o ob' ob q p hn ho hown' hq hp hno hqb
  -- what stands in the caller's heap behind the call
  have hlenU : (updH ρ s.length ρ h0 h0' s).length = s.length := updH_length _ _ _ _ _ _
  have kind : ∀ {o : Nat} {x : AObj}, (hpCall ρ h0 h0' s)[o]? = some (some x) →
      (o < s.length ∧ s[o]? = some (some x) ∧ (∀ (i : Nat) (d : Option Nat) (t : AObj), ρ[i]? = some (some (o, d)) → h0[i]? = some (some t) → t.own = false)) ∨
      (o < s.length ∧ ∃ (i : Nat) (x0 t ob : AObj), ρ[i]? = some (some (o, none)) ∧ h0[i]? = some (some t) ∧ t.own = true ∧ s[o]? = some (some ob) ∧ ob.own = true ∧ h0'[i]? = some (some x0) ∧ i < h0.length ∧ x = renOb ρ s.length x0) ∨
      (∃ (i : Nat) (x0 : AObj), h0.length ≤ i ∧ o = s.length + (i - h0.length) ∧ h0'[i]? = some (some x0) ∧ x = renOb ρ s.length x0) := by
    intro o x hx
    unfold hpCall at hx
    rcases Nat.lt_or_ge o s.length with hlt | hge
    · rw [List.getElem?_append_left (by rw [hlenU]; exact hlt)] at hx
      by_cases hown : ∃ (i : Nat) (d : Option Nat) (t : AObj), ρ[i]? = some (some (o, d)) ∧ h0[i]? = some (some t) ∧ t.own = true
      · obtain ⟨i, d, t, h1, h2, h3⟩ := hown
        have hil : i < h0.length := (List.getElem?_eq_some_iff.1 h2).1
        have hx' : h0'[i]? = some (h0'[i]'(by omega)) := List.getElem?_eq_getElem (by omega)
        rw [updH_own hsep hlt h1 h2 h3 hx'] at hx
        rcases hpM_get hm h2 with ⟨hr1, _⟩ | ⟨n, d', ob', hr1, hn, hob⟩
        · rw [h1] at hr1; cases hr1
        · rw [h1] at hr1
          simp only [Option.some.injEq, Prod.mk.injEq] at hr1
          obtain ⟨rfl, rfl⟩ := hr1
          obtain ⟨rfl, hown'⟩ := obM_own hob h3
          cases hz : h0'[i]'(by omega) with
          | none => rw [hz] at hx; cases hx
          | some x0 =>
            rw [hz] at hx
            simp only [optOb, Option.some.injEq] at hx
            exact .inr (.inl ⟨hlt, i, x0, t, ob', h1, h2, h3, hn, hown', by rw [hx', hz], hil, hx.symm⟩)
      · have hx2 : ∀ (i : Nat) (d : Option Nat) (t : AObj), ρ[i]? = some (some (o, d)) → h0[i]? = some (some t) → t.own = false := by
          intro i d t h1 h2
          cases h3 : t.own with
          | false => rfl
          | true => exact absurd ⟨i, d, t, h1, h2, h3⟩ hown
        rw [updH_other hx2] at hx
        exact .inl ⟨hlt, hx, hx2⟩
    · rw [List.getElem?_append_right (by rw [hlenU]; exact hge), hlenU, renHp_get, List.getElem?_drop] at hx
      simp only [Option.map_eq_some_iff] at hx
      obtain ⟨y, hy, hxy⟩ := hx
      cases y with
      | none => cases hxy
      | some x0 =>
        simp only [optOb, Option.some.injEq] at hxy
        exact .inr (.inr ⟨h0.length + (o - s.length), x0, by omega, by omega, hy, hxy.symm⟩)
  have hnew : ∀ {i : Nat}, h0.length ≤ i → (beCall β β0' ρ.length)[s.length + (i - h0.length)]? = β0'[i]? := by
    intro i hi
    have := beCall_new (β := β) (β0' := β0') (ρ := ρ) hN (o := i) (by omega)
    rwa [hlen] at this ⊢
  have hold : ∀ {o : Nat}, o < s.length → (beCall β β0' ρ.length)[o]? = β[o]? := fun h => beCall_old (by omega)
  -- the place of what the callee owned
  have hplace : ∀ {i o : Nat} {q : Option Pl}, ρ[i]? = some (some (o, none)) → o < s.length → β0'[i]? = some q → β[o]? = some q := by
    intro i o q h1 ho hq
    have hb := hle _ _ (beOf_get β h1)
    rw [hq] at hb
    simp only [Option.some.injEq] at hb
    have : β[o]? = some (β[o]'(by omega)) := List.getElem?_eq_getElem (by omega)
    rw [List.getD_eq_getElem?_getD, this] at hb
    rw [this, hb]
    rfl
  have hfresh : ∀ {i : Nat} {x0 : AObj} {p : Pl}, h0.length ≤ i → h0'[i]? = some (some x0) → β0'[i]? = some (some p) → Own β s p.blk ∨ w.heap.size ≤ p.blk := by
    intro i x0 p hi hx hp
    rcases hst.fresh i x0 p hi hx hp with h1 | h1
    · obtain ⟨j, n, ob', q, hr1, hn, hown', hq, _, hqb, _⟩ := own_M hm h1
      exact .inl ⟨n, ob', q, hn, hown', hq, hqb⟩
    · exact .inr h1
  refine ⟨beCall β β0' ρ.length, v, he, renAV_R hN hle hr, ⟨?_, ?_, ?_, ?_⟩, ⟨?_, hst.os, hst.tape, hst.output, hst.size, ?_, ?_, ?_, ?_⟩⟩
  · -- lengths
    unfold beCall hpCall
    have hr1 : ∀ h : Hp, (renHp ρ s.length h).length = h.length := by
      intro h
      induction h with
      | nil => rfl
      | cons y h ih => cases y <;> simp [renHp, ih]
    simp only [List.length_append, List.length_drop, hlenU, hr1, hN, hh.len, hlen]
  · intro o x hx
    rcases kind hx with ⟨hlt, hsx, hx2⟩ | ⟨hlt, i, x0, t, ob, h1, h2, h3, hsx, hown, hx0, hil, rfl⟩ | ⟨i, x0, hi, rfl, hx0, rfl⟩
    · obtain ⟨q, hq, hR⟩ := hs.ob o x hsx
      refine ⟨q, by rw [hold hlt]; exact hq, (hR.world fun q' hq' => ?_).mono (Be.le_append _ _)⟩
      subst hq'
      exact hblk hsx hq hx2
    · obtain ⟨q, hq, hR⟩ := hh.ob i x0 hx0
      exact ⟨q, by rw [hold hlt]; exact hplace h1 hlt hq, renOb_R hN hle hR (hh.flat i x0 hx0)⟩
    · obtain ⟨q, hq, hR⟩ := hh.ob i x0 hx0
      exact ⟨q, by rw [hnew hi]; exact hq, renOb_R hN hle hR (hh.flat i x0 hx0)⟩
  · intro o x hx hf
    have hflat : ∀ {i : Nat} {x0 : AObj}, h0'[i]? = some (some x0) → (renOb ρ s.length x0).fl = true → FlatL (renOb ρ s.length x0).cs := by
      intro i x0 hx0 hf
      have h4 := (renOb_same (ρ := ρ) (N := s.length) x0).2.2.2
      rw [h4] at hf
      have : renOb ρ s.length x0 = x0 := by unfold renOb; rw [hf]
      rw [this]
      exact hh.flat i x0 hx0 hf
    rcases kind hx with ⟨hlt, hsx, hx2⟩ | ⟨hlt, i, x0, t, ob, h1, h2, h3, hsx, hown, hx0, hil, rfl⟩ | ⟨i, x0, hi, rfl, hx0, rfl⟩
    · exact hs.flat o x hsx hf
    · exact hflat hx0 hf
    · exact hflat hx0 hf
  · intro o o' x x' p p' hx hx' hxo hp hp' hne
    -- an object of the caller's that was there: its place in β, and that it was owned if it is
    have oldp : ∀ {o : Nat} {x : AObj} {p : Pl}, (hpCall ρ h0 h0' s)[o]? = some (some x) → o < s.length → (beCall β β0' ρ.length)[o]? = some (some p) → ∃ ob : AObj, s[o]? = some (some ob) ∧ (x.own = true → ob.own = true) ∧ β[o]? = some (some p) := by
      intro o x p hx hlt hp
      rw [hold hlt] at hp
      rcases kind hx with ⟨_, hsx, _⟩ | ⟨_, i, x0, t, ob, h1, h2, h3, hsx, hown, hx0, hil, rfl⟩ | ⟨i, x0, hi, rfl, hx0, rfl⟩
      · exact ⟨x, hsx, id, hp⟩
      · exact ⟨ob, hsx, fun _ => hown, hp⟩
      · omega
    have cross : ∀ {o o' : Nat} {x x' : AObj} {p p' : Pl}, (hpCall ρ h0 h0' s)[o]? = some (some x) → (hpCall ρ h0 h0' s)[o']? = some (some x') → o < s.length → s.length ≤ o' → (x.own = true ∨ x'.own = true) →
        (beCall β β0' ρ.length)[o]? = some (some p) → (beCall β β0' ρ.length)[o']? = some (some p') → p.blk ≠ p'.blk := by
      intro o o' x x' p p' hx hx' hlt hge hor hp hp' hbb
      obtain ⟨ob, hsx, hown, hbp⟩ := oldp hx hlt hp
      rcases kind hx' with ⟨h1, _⟩ | ⟨h1, _⟩ | ⟨i', x0', hi', rfl, hx0', rfl⟩
      · omega
      · omega
      · rw [hnew hi'] at hp'
        rcases hst.fresh i' x0' p' hi' hx0' hp' with hO | hO
        · obtain ⟨j, n, ob', q, hr1, hn, hown', hq, hbq, hqb, t, ht, hto⟩ := own_M hm hO
          by_cases hno : n = o
          · subst hno
            rcases kind hx with ⟨_, _, hx2⟩ | ⟨_, i, x0, t', ob2, h1, h2, h3, _, _, hx0, hil, rfl⟩ | ⟨i, x0, hi, he2, _⟩
            · have := hx2 j none t hr1 ht
              rw [hto] at this; cases this
            · have hij : i = j := by
                by_cases hij : i = j
                · exact hij
                · exact absurd rfl (sepB_ne hsep hij h1 h2 hr1 ht (.inl h3))
              subst hij
              have hbi : β0'[i]? = some (some q) := hle _ _ hbq
              have hneq : i ≠ i' := by omega
              rw [(renOb_same (ρ := ρ) (N := s.length) x0).2.2.1, (renOb_same (ρ := ρ) (N := s.length) x0').2.2.1] at hor
              rcases hor with ho1 | ho1
              · exact hh.apart i i' x0 x0' q p' hx0 hx0' ho1 hbi hp' hneq hqb
              · exact hh.apart i' i x0' x0 p' q hx0' hx0 ho1 hp' hbi (Ne.symm hneq) hqb.symm
            · omega
          · exact hs.apart n o ob' ob q p hn hsx hown' hq hbp hno (by rw [hqb, hbb])
        · obtain ⟨q, hq, hR⟩ := hs.ob o ob hsx
          rw [hbp] at hq
          cases hq
          have := hR.lt
          omega
    rcases Nat.lt_or_ge o s.length with hlt | hge
    · rcases Nat.lt_or_ge o' s.length with hlt' | hge'
      · obtain ⟨ob, hsx, hown, hbp⟩ := oldp hx hlt hp
        obtain ⟨ob', hsx', _, hbp'⟩ := oldp hx' hlt' hp'
        exact hs.apart o o' ob ob' p p' hsx hsx' (hown hxo) hbp hbp' hne
      · exact cross hx hx' hlt hge' (.inl hxo) hp hp'
    · rcases Nat.lt_or_ge o' s.length with hlt' | hge'
      · exact (cross hx' hx hlt' hge (.inr hxo) hp' hp).symm
      · rcases kind hx with ⟨h1, _⟩ | ⟨h1, _⟩ | ⟨i, x0, hi, rfl, hx0, rfl⟩
        · omega
        · omega
        · rcases kind hx' with ⟨h1, _⟩ | ⟨h1, _⟩ | ⟨i', x0', hi', rfl, hx0', rfl⟩
          · omega
          · omega
          · rw [hnew hi] at hp
            rw [hnew hi'] at hp'
            rw [(renOb_same (ρ := ρ) (N := s.length) x0).2.2.1] at hxo
            exact hh.apart i i' x0 x0' p p' hx0 hx0' hxo hp hp' (fun e => hne (by rw [e]))
  · exact Be.le_append _ _
  · intro k hk hno
    refine hst.block k hk fun hown => ?_
    obtain ⟨i, n, ob', q, hr1, hn, hown', hq, _, hqb, _⟩ := own_M hm hown
    exact hno ⟨n, ob', q, hn, hown', hq, hqb⟩
  · unfold hpCall
    rw [List.length_append, hlenU]
    omega
  · intro o x hlt hx
    rcases kind hx with ⟨_, hsx, _⟩ | ⟨_, i, x0, t, ob, h1, h2, h3, hsx, hown, hx0, hil, rfl⟩ | ⟨i, x0, hi, rfl, hx0, rfl⟩
    · exact ⟨x, hsx, id⟩
    · exact ⟨ob, hsx, fun _ => hown⟩
    · omega
  · intro o x p hge hx hp
    rcases kind hx with ⟨h1, _⟩ | ⟨h1, _⟩ | ⟨i, x0, hi, rfl, hx0, rfl⟩
    · omega
    · omega
    · rw [hnew hi] at hp
      exact hfresh hi hx0 hp
theorem callA_at {P : Program} {f : FuncId} {args0 avs : List AV} {h0 h0' s : Hp} {res0 : AV} (ct : CallA P f args0 h0 res0 h0') (ρ : Rho) (hargs : avsM ρ args0 avs) (hm : hpM ρ s ρ h0) (hsep : sepB ρ h0 = true) :
    CallA P f avs s (renAV ρ s.length res0) (hpCall ρ h0 h0' s) :=
  ⟨ct.1, fun β w vs hs hvs => callW_at ρ hargs hm hsep (fun vs h1 h2 => ct.2 _ w vs h1 h2) hs hvs⟩
theorem den_call {P : Program} {E : Entry} {F : S → Prop} {f : FuncId} {avs : List AV} {d : Option Tmp} {k : List Item} {s : S} {c : Prop} {args0 : List AV} {h0 h0' : Hp} {res0 : AV} (hc : c) (ct : CallA P f args0 h0 res0 h0') (ρ : Rho)
    (hm : avsM ρ args0 avs ∧ hpM ρ s.hp ρ h0) (hsep : sepB ρ h0 = true) (hk : den P E F (.go k (s.put d (some (renAV ρ s.hp.length res0)) (hpCall ρ h0 h0' s.hp)) True)) : den P E F (.call f avs d k s c) :=
  ⟨hc, _, _, (callA_at ct ρ hm.1 hm.2 hsep).e, hk.2⟩

def chunks {α : Type} : Nat → List α → List (List α)
  | 0, _ => []
  | n + 1, l => match l with
    | [] => []
    | l => l.take 16 :: chunks n (l.drop 16)
def padN : Nat → List AV → List (Option AV)
  | 0, l => l.map some
  | n + 1, [] => none :: padN n []
  | n + 1, a :: l => some a :: padN n l
theorem padN_eq : ∀ (n : Nat) (args : List AV), padN n args = args.map some ++ List.replicate (n - args.length) none
  | 0, l => by simp [padN]
  | n + 1, [] => by simp [padN, padN_eq n [], List.replicate_succ]
  | n + 1, a :: l => by simp [padN, padN_eq n l]
def initS (n : Nat) (args : List AV) : Slots := chunks (n / 16 + 1) (padN n args)
theorem chunks_get {α : Type} (d : Option α) : ∀ (m : Nat) (l : List (Option α)) (i : Nat), l.length ≤ 16 * m → ((chunks m l).getD (i / 16) []).getD (i % 16) none = l.getD i none ∧ (i % 16 < ((chunks m l).getD (i / 16) []).length → i < l.length)
  | 0, l, i, h => by
    have : l = [] := List.eq_nil_of_length_eq_zero (by omega)
    subst this
    simp [chunks]
  | m + 1, [], i, h => by simp [chunks]
  | m + 1, a :: l, i, h => by
    simp only [chunks]
    rcases Nat.lt_or_ge i 16 with hi | hi
    · have h1 : i / 16 = 0 := by omega
      have h2 : i % 16 = i := by omega
      rw [h1, h2]
      simp only [List.getD_cons_zero]
      refine ⟨?_, fun h3 => by simp at h3 ⊢; omega⟩
      rw [List.getD_eq_getElem?_getD, List.getElem?_take_of_lt hi, List.getD_eq_getElem?_getD]
    · have h1 : i / 16 = (i - 16) / 16 + 1 := by omega
      have h2 : i % 16 = (i - 16) % 16 := by omega
      rw [h1, h2, List.getD_cons_succ]
      obtain ⟨e1, e2⟩ := chunks_get d m ((a :: l).drop 16) (i - 16) (by simp at h ⊢; omega)
      refine ⟨?_, fun h3 => ?_⟩
      · rw [e1, List.getD_eq_getElem?_getD, List.getElem?_drop, List.getD_eq_getElem?_getD]
        congr 2
        omega
      · have := e2 h3
        simp at this ⊢
        omega
theorem chunks_lt {α : Type} : ∀ (m : Nat) (l : List (Option α)) (i : Nat), i % 16 < ((chunks m l).getD (i / 16) []).length → i < l.length
  | 0, l, i, h => by simp [chunks] at h
  | m + 1, [], i, h => by simp [chunks] at h
  | m + 1, a :: l, i, h => by
    simp only [chunks] at h
    rcases Nat.lt_or_ge i 16 with hi | hi
    · have h1 : i / 16 = 0 := by omega
      have h2 : i % 16 = i := by omega
      rw [h1, h2] at h
      simp only [List.getD_cons_zero] at h
      simp at h ⊢
      omega
    · have h1 : i / 16 = (i - 16) / 16 + 1 := by omega
      have h2 : i % 16 = (i - 16) % 16 := by omega
      rw [h1, h2, List.getD_cons_succ] at h
      have := chunks_lt m ((a :: l).drop 16) (i - 16) h
      simp at this ⊢
      omega
theorem chunks_some {α : Type} : ∀ (m : Nat) (l : List (Option α)) (i : Nat) (v : α), ((chunks m l).getD (i / 16) []).getD (i % 16) none = some v → l[i]? = some (some v)
  | 0, l, i, v, h => by simp [chunks] at h
  | m + 1, [], i, v, h => by simp [chunks] at h
  | m + 1, a :: l, i, v, h => by
    simp only [chunks] at h
    rcases Nat.lt_or_ge i 16 with hi | hi
    · have h1 : i / 16 = 0 := by omega
      have h2 : i % 16 = i := by omega
      rw [h1, h2] at h
      simp only [List.getD_cons_zero] at h
      rw [List.getD_eq_getElem?_getD, List.getElem?_take_of_lt hi] at h
      cases hx : (a :: l)[i]? with
      | none => rw [hx] at h; cases h
      | some y => rw [hx] at h; simp only [Option.getD_some] at h; rw [h]
    · have h1 : i / 16 = (i - 16) / 16 + 1 := by omega
      have h2 : i % 16 = (i - 16) % 16 := by omega
      rw [h1, h2, List.getD_cons_succ] at h
      have := chunks_some m ((a :: l).drop 16) (i - 16) v h
      rw [List.getElem?_drop] at this
      rw [← this]
      congr 1
      omega
theorem initS_R {β : Be} {n : Nat} {args : List AV} {vs : List Value} (h : L2 (AVR β) args vs) : SlotsR β (initS n args) (vs.toArray ++ Array.replicate (n - vs.toArray.size) undef) := by
  have hl := h.length
  have hpl : (padN n args).length = max args.length n := by simp [padN_eq]; omega
  by_cases hn : args.length ≤ n
  · have hb : (padN n args).length ≤ 16 * (n / 16 + 1) := by rw [hpl]; omega
    refine ⟨fun i hi => ?_, fun i v hv => ?_⟩
    · have := (chunks_get (α := AV) none (n / 16 + 1) (padN n args) i hb).2 hi
      rw [hpl] at this
      simp
      omega
    · unfold Slots.get initS at hv
      rw [(chunks_get (α := AV) none (n / 16 + 1) (padN n args) i hb).1, List.getD_eq_getElem?_getD] at hv
      rw [padN_eq] at hv
      rcases Nat.lt_or_ge i args.length with hi | hi
      · rw [List.getElem?_append_left (by simpa using hi), List.getElem?_map] at hv
        have hx : args[i]? = some args[i] := List.getElem?_eq_getElem hi
        rw [hx] at hv
        simp only [Option.map_some, Option.getD_some, Option.some.injEq] at hv
        obtain ⟨u, hu, hr⟩ := h.get hx
        refine ⟨u, ?_, by rw [← hv]; exact hr⟩
        rw [Array.getElem?_append_left (by simp; omega)]
        simpa using hu
      · rw [List.getElem?_append_right (by simpa using hi)] at hv
        rw [List.getElem?_replicate] at hv
        split at hv <;> cases hv
  · -- more arguments than slots: nothing is said but by the arguments themselves
    have hrep : n - args.length = 0 := by omega
    have hpad : padN n args = args.map some := by simp [padN_eq, hrep]
    refine ⟨fun i hi => ?_, fun i v hv => ?_⟩
    · unfold Slots.has initS at hi
      rw [hpad] at hi
      have := chunks_lt (n / 16 + 1) (args.map some) i hi
      simp at this ⊢
      omega
    · unfold Slots.get initS at hv
      rw [hpad] at hv
      have hx := chunks_some (n / 16 + 1) (args.map some) i v hv
      rw [List.getElem?_map] at hx
      simp only [Option.map_eq_some_iff] at hx
      obtain ⟨y, hy, he⟩ := hx
      simp only [Option.some.injEq] at he
      subst he
      obtain ⟨u, hu, hr⟩ := h.get hy
      refine ⟨u, ?_, hr⟩
      have hlt := (List.getElem?_eq_some_iff.1 hu).1
      rw [Array.getElem?_append_left (by simpa using hlt)]
      simpa using hu
end
section
open Go.RowKit
set_option linter.unusedVariables false
set_option linter.unusedSimpArgs false

def aRes1 (P : Program) (s : S) : ResultVar → Option AV
  | .tmp t => s.sl.get t
  | .cell a t => match s.sl.get a with
    | some (.sc (.pt o k j)) => match s.obj o with
      | some ob => match ob.cs[k]? with
        | some c => match tagg P t with
          | true => if j + tsz P t ≤ c.length then some (.ag ((c.drop j).take (tsz P t))) else none
          | false => if tknown P t then match c[j]? with
            | some x => some (.sc x)
            | none => none else none
        | none => none
      | none => none
    | _ => none
def aRess (P : Program) (s : S) : List ResultVar → Option (List AV)
  | [] => some []
  | r :: l => match aRes1 P s r, aRess P s l with
    | some v, some m => some (v :: m)
    | _, _ => none
def toCos : List AV → Option (List Co)
  | [] => some []
  | .sc x :: l => match toCos l with
    | some m => some (.sc x :: m)
    | none => none
  | .ag x :: l => match toCos l with
    | some m => some (.ag x :: m)
    | none => none
  | _ :: _ => none
def aRes (P : Program) (s : S) (rs : List ResultVar) : Option AV :=
  match aRess P s rs with
  | some [v] => some v
  | some l => match toCos l with
    | some m => some (.tu m)
    | none => none
  | none => none
section
variable {P : Program} {β : Be} {s : S} {w : World} {tm : Array Value}
def resRun (tm : Array Value) : ResultVar → Sem Value
  | .tmp t => pure (tm.getD t undef)
  | .cell a t => do loadVar t (← asAddr (tm.getD a undef))
theorem aRes1_R (hs : HSim β s.hp w) (hsl : SlotsR β s.sl tm) {r : ResultVar} {v : AV} (h : aRes1 P s r = some v) : ∃ u, (resRun tm r).run P w = .ok u w ∧ AVR β v u := by
  have slot : ∀ {t : Nat} {x : AV}, s.sl.get t = some x → AVR β x (tm.getD t undef) := by
    intro t x hx
    obtain ⟨u, hu, hr⟩ := hsl.2 t x hx
    have : tm.getD t undef = u := by simp [Array.getD_eq_getD_getElem?, hu]
    rw [this]; exact hr
  cases r with
  | tmp t => exact ⟨_, rfl, slot h⟩
  | cell a t =>
    simp only [aRes1] at h
    split at h
    · rename_i o k j hx
      have hv : ScR β (.pt o k j) (tm.getD a undef) := slot hx
      have hrun : ∀ {u : Value}, (Instr.loadAt t (tm.getD a undef)).run P w = .ok u w → (resRun tm (.cell a t)).run P w = .ok u w := by
        intro u hu
        obtain ⟨p, _, hpe⟩ := hv
        rw [hpe] at hu
        show ((do loadVar t (← asAddr (tm.getD a undef)) : Sem Value)).run P w = .ok u w
        rw [hpe]
        simpa [Instr.loadAt, Instr.sureAddr, asAddr] using hu
      split at h
      · rename_i ob hob
        split at h
        · rename_i c hk
          split at h
          · rename_i hag
            split at h
            · rename_i hn
              simp only [Option.some.injEq] at h
              subst h
              obtain ⟨vs, h1, h2⟩ := run_load_agg hs hob hk hag hn hv
              exact ⟨_, hrun h1, vs, rfl, h2⟩
            · cases h
          · rename_i hag
            split at h
            · rename_i hkn
              split at h
              · rename_i y hy
                simp only [Option.some.injEq] at h
                subst h
                obtain ⟨u, h1, h2⟩ := run_load_one hs hob hk hag hkn hy hv
                exact ⟨u, hrun h1, h2⟩
              · cases h
            · cases h
        · cases h
      · cases h
    · cases h
theorem aRess_R (hs : HSim β s.hp w) (hsl : SlotsR β s.sl tm) : ∀ {rs : List ResultVar} {l : List AV}, aRess P s rs = some l → ∃ us, (rs.mapM (resRun tm)).run P w = .ok us w ∧ L2 (AVR β) l us
  | [], l, h => by
    simp only [aRess, Option.some.injEq] at h
    subst h
    exact ⟨[], rfl, trivial⟩
  | r :: rs, l, h => by
    simp only [aRess] at h
    split at h
    · rename_i v m hv hm
      simp only [Option.some.injEq] at h
      subst h
      obtain ⟨u, h1, h2⟩ := aRes1_R hs hsl hv
      obtain ⟨us, h3, h4⟩ := aRess_R hs hsl hm
      refine ⟨u :: us, ?_, h2, h4⟩
      simp only [List.mapM_cons, Sem.run_bind, h1, Result.andThen_ok, h3, Sem.run_pure]
    · cases h
theorem toCos_R : ∀ {l : List AV} {m : List Co} {us : List Value}, toCos l = some m → L2 (AVR β) l us → L2 (CoR β) m us
  | [], m, [], h, _ => by simp only [toCos, Option.some.injEq] at h; subst h; trivial
  | .sc x :: l, m, u :: us, h, hu => by
    simp only [toCos] at h
    split at h
    · rename_i m' hm
      simp only [Option.some.injEq] at h
      subst h
      exact ⟨hu.1, toCos_R hm hu.2⟩
    · cases h
  | .ag x :: l, m, u :: us, h, hu => by
    simp only [toCos] at h
    split at h
    · rename_i m' hm
      simp only [Option.some.injEq] at h
      subst h
      exact ⟨hu.1, toCos_R hm hu.2⟩
    · cases h
  | .tu x :: l, m, us, h, _ => by cases h
  | .cl f x :: l, m, us, h, _ => by cases h
  | [], m, _ :: _, _, hu => hu.elim
  | .sc _ :: _, m, [], _, hu => hu.elim
  | .ag _ :: _, m, [], _, hu => hu.elim
theorem results_eq (fn : Func) (tm : Array Value) : results fn tm = (do let vs ← fn.results.mapM (resRun tm); pure (if h : vs.size = 1 then vs[0] else .tuple vs)) := by
  unfold results
  congr 1
theorem aRes_R (hs : HSim β s.hp w) (hsl : SlotsR β s.sl tm) {fn : Func} {v : AV} (h : aRes P s fn.results.toList = some v) : ∃ u, (results fn tm).run P w = .ok u w ∧ AVR β v u := by
  have harr : ∀ {us : List Value}, (fn.results.toList.mapM (resRun tm)).run P w = .ok us w → (fn.results.mapM (resRun tm)).run P w = .ok us.toArray w := by
    intro us hus
    rw [Array.mapM_eq_mapM_toList]
    have e : ∀ (m : Sem (List Value)), (List.toArray <$> m) = (do pure (List.toArray (← m))) := fun m => rfl
    rw [e, Sem.run_bind, hus]
    rfl
  unfold aRes at h
  split at h
  · rename_i x hx
    simp only [Option.some.injEq] at h
    subst h
    obtain ⟨us, h1, h2⟩ := aRess_R (P := P) hs hsl hx
    match us, h2 with
    | [u], h2 =>
      refine ⟨u, ?_, h2.1⟩
      rw [results_eq, Sem.run_bind, harr h1]
      rfl
    | [], h2 => exact h2.elim
    | _ :: _ :: _, h2 => exact h2.2.elim
  · rename_i l hne hx
    split at h
    · rename_i m hm
      simp only [Option.some.injEq] at h
      subst h
      obtain ⟨us, h1, h2⟩ := aRess_R (P := P) hs hsl hx
      refine ⟨.tuple us.toArray, ?_, us, rfl, toCos_R hm h2⟩
      rw [results_eq, Sem.run_bind, harr h1]
      have hl := h2.length
      have h1' : us.toArray.size ≠ 1 := by
        intro he
        have : l.length = 1 := by simpa [hl] using he
        match l, this with
        | [v], _ => exact hne v rfl
      simp only [Result.andThen_ok, dif_neg h1']
      rfl
    · cases h
  · cases h
end
/-- The end of a body: its result and its heap, seen as the contract's. -/
def EndF (P : Program) (rs : List ResultVar) (n0 : Nat) (res : AV) (h' : Hp) (s : S) : Prop :=
  ∃ v ρ, aRes P s rs = some v ∧ idB n0 0 ρ = true ∧ sepB ρ h' = true ∧ avM ρ res v ∧ hpM ρ s.hp ρ h'
theorem den_fin {P : Program} {E : Entry} {rs : List ResultVar} {n0 : Nat} {res : AV} {h' : Hp} {s : S} {c : Prop} (ρ : Rho) (hc : c) (v : AV) (hr : aRes P s rs = some v) (hid : idB n0 0 ρ = true) (hsep : sepB ρ h' = true) (hm : avM ρ res v ∧ hpM ρ s.hp ρ h') :
    den P E (EndF P rs n0 res h') (.fin s c) := ⟨hc, v, ρ, hr, hid, hsep, hm.1, hm.2⟩
theorem callA_of {P : Program} {f : FuncId} {fn : Func} {c : Code} (hf : P.funcs[f]? = some fn) (hname : (fn.name == "runtime.NumGoroutine") = false) (hb : fn.body = some c) {args : List AV} {h h' : Hp} {res : AV}
    (H : ∀ E : Entry, E.h.length = h.length → den P E (EndF P fn.results.toList h.length res h') (.go [.code c] ⟨initS fn.ntmps args, h⟩ True)) : CallA P f args h res h' := by
  refine ⟨⟨fn, hf, hname, by rw [hb]; rfl⟩, fun β w vs hs hvs => ?_⟩
  refine calls_of_wp hf hb ?_
  let E : Entry := ⟨β, h, w⟩
  have hd := (H E rfl).2
  refine hd β _ w ⟨rfl, initS_R hvs, hs, hs.len, StepR.refl β h w hs.len⟩ _ fun e s' β' a' w' hK hs' => ?_
  have key : EndF P fn.results.toList h.length res h' s' → a'.defers = [] ∧ ∃ v, (results fn a'.tmps).run P w' = .ok v w' ∧ ∃ β'' u, Ending.returned v = .returned u ∧ AVR β'' res u ∧ HSim β'' h' w' ∧ StepR β β'' h h' w w' := by
    intro ⟨v, ρ, hr, hid, hsep, hav, hhp⟩
    obtain ⟨u, hrun, hu⟩ := aRes_R hs'.hp hs'.sl hr
    have hw : WeakS ρ h.length ⟨[], h'⟩ ⟨[], s'.hp⟩ := ⟨hid, hsep, trivial, hhp⟩
    have hsim := sim_weak (E := E) rfl hw (β := β') (a := a') (w := w') ⟨hs'.dfr, ⟨fun i hi => by simp [Slots.has] at hi, fun i x hx => by simp [Slots.get] at hx⟩, hs'.hp, hs'.ent, hs'.st⟩
    exact ⟨hs'.dfr, u, hrun, beOf β' ρ, u, rfl, avM_R hav hu, hsim.hp, hsim.st⟩
  cases e with
  | normal => exact key hK
  | ret => exact key hK
  | _ => exact hK.elim
end
section
set_option linter.unusedVariables false
theorem nameAt_eq (ρ : Rho) (N o : Nat) : nameAt ρ N o = match ρ[o]? with
    | some x => x
    | none => some (N + (o - ρ.length), none) := by
  unfold nameAt
  by_cases h : o < ρ.length
  · rw [if_pos h, List.getElem?_eq_getElem h]
    unfold Rho.at
    rw [List.getD_eq_getElem?_getD, List.getElem?_eq_getElem h]
    rfl
  · rw [if_neg h, List.getElem?_eq_none (by omega)]
attribute [go_sem] run stepG stepOp exitK guardOf aop aBin aInt aAppend aSlice optInt S.ev S.evs S.put S.obj S.new S.val S.valc S.parts S.scals Slots.get Slots.put Sc.ofV scs AV.ofV AV.cells Co.av fillA fillL over spl lenIs fits leB scAll flatC flatL Sc.isFlat padN initS chunks renAV renSc renC renCo renTu renCs renOb renHp optOb updH hpCall nameAt_eq Rho.at S.kill S.sets S.at Int.toNat_natCast List.length_map aRes aRess aRes1 toCos scEq scsEq avM avsM scM cM coM tuM csM hpM obM slM slM1 beq_self_eq_true
attribute [go_sem] List.map_cons List.map_nil List.cons_append List.nil_append List.append_nil List.take_succ_cons List.take_zero List.take_nil List.drop_succ_cons List.drop_zero List.drop_nil List.getD_cons_zero List.getD_cons_succ List.getD_nil List.set_cons_zero List.set_cons_succ List.getElem?_cons_zero List.getElem?_cons_succ List.getElem?_nil List.length_cons List.length_nil List.getElem?_toArray List.toList_toArray Option.map_some Option.map_none Option.bind_some Bool.and_true Bool.true_and Bool.and_self and_true true_and and_self if_true if_false List.replicate_succ List.replicate_zero Nat.zero_add Nat.add_zero Bool.not_true Bool.not_false beq_true beq_false List.mem_cons
theorem arr_append {α : Type} (l m : List α) : Array.append l.toArray m.toArray = (l ++ m).toArray := by simp
attribute [go_sem] arr_append
theorem d16_0 : (0 : Nat) / 16 = 0 := rfl
theorem m16_0 : (0 : Nat) % 16 = 0 := rfl
theorem d16_1 : (1 : Nat) / 16 = 0 := rfl
theorem m16_1 : (1 : Nat) % 16 = 1 := rfl
theorem d16_2 : (2 : Nat) / 16 = 0 := rfl
theorem m16_2 : (2 : Nat) % 16 = 2 := rfl
theorem d16_3 : (3 : Nat) / 16 = 0 := rfl
theorem m16_3 : (3 : Nat) % 16 = 3 := rfl
theorem d16_4 : (4 : Nat) / 16 = 0 := rfl
theorem m16_4 : (4 : Nat) % 16 = 4 := rfl
theorem d16_5 : (5 : Nat) / 16 = 0 := rfl
theorem m16_5 : (5 : Nat) % 16 = 5 := rfl
theorem d16_6 : (6 : Nat) / 16 = 0 := rfl
theorem m16_6 : (6 : Nat) % 16 = 6 := rfl
theorem d16_7 : (7 : Nat) / 16 = 0 := rfl
theorem m16_7 : (7 : Nat) % 16 = 7 := rfl
theorem d16_8 : (8 : Nat) / 16 = 0 := rfl
theorem m16_8 : (8 : Nat) % 16 = 8 := rfl
theorem d16_9 : (9 : Nat) / 16 = 0 := rfl
theorem m16_9 : (9 : Nat) % 16 = 9 := rfl
theorem d16_10 : (10 : Nat) / 16 = 0 := rfl
theorem m16_10 : (10 : Nat) % 16 = 10 := rfl
theorem d16_11 : (11 : Nat) / 16 = 0 := rfl
theorem m16_11 : (11 : Nat) % 16 = 11 := rfl
theorem d16_12 : (12 : Nat) / 16 = 0 := rfl
theorem m16_12 : (12 : Nat) % 16 = 12 := rfl
theorem d16_13 : (13 : Nat) / 16 = 0 := rfl
theorem m16_13 : (13 : Nat) % 16 = 13 := rfl
theorem d16_14 : (14 : Nat) / 16 = 0 := rfl
theorem m16_14 : (14 : Nat) % 16 = 14 := rfl
theorem d16_15 : (15 : Nat) / 16 = 0 := rfl
theorem m16_15 : (15 : Nat) % 16 = 15 := rfl
theorem d16_16 : (16 : Nat) / 16 = 1 := rfl
theorem m16_16 : (16 : Nat) % 16 = 0 := rfl
theorem d16_17 : (17 : Nat) / 16 = 1 := rfl
theorem m16_17 : (17 : Nat) % 16 = 1 := rfl
theorem d16_18 : (18 : Nat) / 16 = 1 := rfl
theorem m16_18 : (18 : Nat) % 16 = 2 := rfl
theorem d16_19 : (19 : Nat) / 16 = 1 := rfl
theorem m16_19 : (19 : Nat) % 16 = 3 := rfl
theorem d16_20 : (20 : Nat) / 16 = 1 := rfl
theorem m16_20 : (20 : Nat) % 16 = 4 := rfl
theorem d16_21 : (21 : Nat) / 16 = 1 := rfl
theorem m16_21 : (21 : Nat) % 16 = 5 := rfl
theorem d16_22 : (22 : Nat) / 16 = 1 := rfl
theorem m16_22 : (22 : Nat) % 16 = 6 := rfl
theorem d16_23 : (23 : Nat) / 16 = 1 := rfl
theorem m16_23 : (23 : Nat) % 16 = 7 := rfl
theorem d16_24 : (24 : Nat) / 16 = 1 := rfl
theorem m16_24 : (24 : Nat) % 16 = 8 := rfl
theorem d16_25 : (25 : Nat) / 16 = 1 := rfl
theorem m16_25 : (25 : Nat) % 16 = 9 := rfl
theorem d16_26 : (26 : Nat) / 16 = 1 := rfl
theorem m16_26 : (26 : Nat) % 16 = 10 := rfl
theorem d16_27 : (27 : Nat) / 16 = 1 := rfl
theorem m16_27 : (27 : Nat) % 16 = 11 := rfl
theorem d16_28 : (28 : Nat) / 16 = 1 := rfl
theorem m16_28 : (28 : Nat) % 16 = 12 := rfl
theorem d16_29 : (29 : Nat) / 16 = 1 := rfl
theorem m16_29 : (29 : Nat) % 16 = 13 := rfl
theorem d16_30 : (30 : Nat) / 16 = 1 := rfl
theorem m16_30 : (30 : Nat) % 16 = 14 := rfl
theorem d16_31 : (31 : Nat) / 16 = 1 := rfl
theorem m16_31 : (31 : Nat) % 16 = 15 := rfl
theorem d16_32 : (32 : Nat) / 16 = 2 := rfl
theorem m16_32 : (32 : Nat) % 16 = 0 := rfl
theorem d16_33 : (33 : Nat) / 16 = 2 := rfl
theorem m16_33 : (33 : Nat) % 16 = 1 := rfl
theorem d16_34 : (34 : Nat) / 16 = 2 := rfl
theorem m16_34 : (34 : Nat) % 16 = 2 := rfl
theorem d16_35 : (35 : Nat) / 16 = 2 := rfl
theorem m16_35 : (35 : Nat) % 16 = 3 := rfl
theorem d16_36 : (36 : Nat) / 16 = 2 := rfl
theorem m16_36 : (36 : Nat) % 16 = 4 := rfl
theorem d16_37 : (37 : Nat) / 16 = 2 := rfl
theorem m16_37 : (37 : Nat) % 16 = 5 := rfl
theorem d16_38 : (38 : Nat) / 16 = 2 := rfl
theorem m16_38 : (38 : Nat) % 16 = 6 := rfl
theorem d16_39 : (39 : Nat) / 16 = 2 := rfl
theorem m16_39 : (39 : Nat) % 16 = 7 := rfl
theorem d16_40 : (40 : Nat) / 16 = 2 := rfl
theorem m16_40 : (40 : Nat) % 16 = 8 := rfl
theorem d16_41 : (41 : Nat) / 16 = 2 := rfl
theorem m16_41 : (41 : Nat) % 16 = 9 := rfl
theorem d16_42 : (42 : Nat) / 16 = 2 := rfl
theorem m16_42 : (42 : Nat) % 16 = 10 := rfl
theorem d16_43 : (43 : Nat) / 16 = 2 := rfl
theorem m16_43 : (43 : Nat) % 16 = 11 := rfl
theorem d16_44 : (44 : Nat) / 16 = 2 := rfl
theorem m16_44 : (44 : Nat) % 16 = 12 := rfl
theorem d16_45 : (45 : Nat) / 16 = 2 := rfl
theorem m16_45 : (45 : Nat) % 16 = 13 := rfl
theorem d16_46 : (46 : Nat) / 16 = 2 := rfl
theorem m16_46 : (46 : Nat) % 16 = 14 := rfl
theorem d16_47 : (47 : Nat) / 16 = 2 := rfl
theorem m16_47 : (47 : Nat) % 16 = 15 := rfl
theorem d16_48 : (48 : Nat) / 16 = 3 := rfl
theorem m16_48 : (48 : Nat) % 16 = 0 := rfl
theorem d16_49 : (49 : Nat) / 16 = 3 := rfl
theorem m16_49 : (49 : Nat) % 16 = 1 := rfl
theorem d16_50 : (50 : Nat) / 16 = 3 := rfl
theorem m16_50 : (50 : Nat) % 16 = 2 := rfl
theorem d16_51 : (51 : Nat) / 16 = 3 := rfl
theorem m16_51 : (51 : Nat) % 16 = 3 := rfl
theorem d16_52 : (52 : Nat) / 16 = 3 := rfl
theorem m16_52 : (52 : Nat) % 16 = 4 := rfl
theorem d16_53 : (53 : Nat) / 16 = 3 := rfl
theorem m16_53 : (53 : Nat) % 16 = 5 := rfl
theorem d16_54 : (54 : Nat) / 16 = 3 := rfl
theorem m16_54 : (54 : Nat) % 16 = 6 := rfl
theorem d16_55 : (55 : Nat) / 16 = 3 := rfl
theorem m16_55 : (55 : Nat) % 16 = 7 := rfl
theorem d16_56 : (56 : Nat) / 16 = 3 := rfl
theorem m16_56 : (56 : Nat) % 16 = 8 := rfl
theorem d16_57 : (57 : Nat) / 16 = 3 := rfl
theorem m16_57 : (57 : Nat) % 16 = 9 := rfl
theorem d16_58 : (58 : Nat) / 16 = 3 := rfl
theorem m16_58 : (58 : Nat) % 16 = 10 := rfl
theorem d16_59 : (59 : Nat) / 16 = 3 := rfl
theorem m16_59 : (59 : Nat) % 16 = 11 := rfl
theorem d16_60 : (60 : Nat) / 16 = 3 := rfl
theorem m16_60 : (60 : Nat) % 16 = 12 := rfl
theorem d16_61 : (61 : Nat) / 16 = 3 := rfl
theorem m16_61 : (61 : Nat) % 16 = 13 := rfl
theorem d16_62 : (62 : Nat) / 16 = 3 := rfl
theorem m16_62 : (62 : Nat) % 16 = 14 := rfl
theorem d16_63 : (63 : Nat) / 16 = 3 := rfl
theorem m16_63 : (63 : Nat) % 16 = 15 := rfl
theorem d16_64 : (64 : Nat) / 16 = 4 := rfl
theorem m16_64 : (64 : Nat) % 16 = 0 := rfl
theorem d16_65 : (65 : Nat) / 16 = 4 := rfl
theorem m16_65 : (65 : Nat) % 16 = 1 := rfl
theorem d16_66 : (66 : Nat) / 16 = 4 := rfl
theorem m16_66 : (66 : Nat) % 16 = 2 := rfl
theorem d16_67 : (67 : Nat) / 16 = 4 := rfl
theorem m16_67 : (67 : Nat) % 16 = 3 := rfl
theorem d16_68 : (68 : Nat) / 16 = 4 := rfl
theorem m16_68 : (68 : Nat) % 16 = 4 := rfl
theorem d16_69 : (69 : Nat) / 16 = 4 := rfl
theorem m16_69 : (69 : Nat) % 16 = 5 := rfl
theorem d16_70 : (70 : Nat) / 16 = 4 := rfl
theorem m16_70 : (70 : Nat) % 16 = 6 := rfl
theorem d16_71 : (71 : Nat) / 16 = 4 := rfl
theorem m16_71 : (71 : Nat) % 16 = 7 := rfl
theorem d16_72 : (72 : Nat) / 16 = 4 := rfl
theorem m16_72 : (72 : Nat) % 16 = 8 := rfl
theorem d16_73 : (73 : Nat) / 16 = 4 := rfl
theorem m16_73 : (73 : Nat) % 16 = 9 := rfl
theorem d16_74 : (74 : Nat) / 16 = 4 := rfl
theorem m16_74 : (74 : Nat) % 16 = 10 := rfl
theorem d16_75 : (75 : Nat) / 16 = 4 := rfl
theorem m16_75 : (75 : Nat) % 16 = 11 := rfl
theorem d16_76 : (76 : Nat) / 16 = 4 := rfl
theorem m16_76 : (76 : Nat) % 16 = 12 := rfl
theorem d16_77 : (77 : Nat) / 16 = 4 := rfl
theorem m16_77 : (77 : Nat) % 16 = 13 := rfl
theorem d16_78 : (78 : Nat) / 16 = 4 := rfl
theorem m16_78 : (78 : Nat) % 16 = 14 := rfl
theorem d16_79 : (79 : Nat) / 16 = 4 := rfl
theorem m16_79 : (79 : Nat) % 16 = 15 := rfl
theorem d16_80 : (80 : Nat) / 16 = 5 := rfl
theorem m16_80 : (80 : Nat) % 16 = 0 := rfl
theorem d16_81 : (81 : Nat) / 16 = 5 := rfl
theorem m16_81 : (81 : Nat) % 16 = 1 := rfl
theorem d16_82 : (82 : Nat) / 16 = 5 := rfl
theorem m16_82 : (82 : Nat) % 16 = 2 := rfl
theorem d16_83 : (83 : Nat) / 16 = 5 := rfl
theorem m16_83 : (83 : Nat) % 16 = 3 := rfl
theorem d16_84 : (84 : Nat) / 16 = 5 := rfl
theorem m16_84 : (84 : Nat) % 16 = 4 := rfl
theorem d16_85 : (85 : Nat) / 16 = 5 := rfl
theorem m16_85 : (85 : Nat) % 16 = 5 := rfl
theorem d16_86 : (86 : Nat) / 16 = 5 := rfl
theorem m16_86 : (86 : Nat) % 16 = 6 := rfl
theorem d16_87 : (87 : Nat) / 16 = 5 := rfl
theorem m16_87 : (87 : Nat) % 16 = 7 := rfl
theorem d16_88 : (88 : Nat) / 16 = 5 := rfl
theorem m16_88 : (88 : Nat) % 16 = 8 := rfl
theorem d16_89 : (89 : Nat) / 16 = 5 := rfl
theorem m16_89 : (89 : Nat) % 16 = 9 := rfl
theorem d16_90 : (90 : Nat) / 16 = 5 := rfl
theorem m16_90 : (90 : Nat) % 16 = 10 := rfl
theorem d16_91 : (91 : Nat) / 16 = 5 := rfl
theorem m16_91 : (91 : Nat) % 16 = 11 := rfl
theorem d16_92 : (92 : Nat) / 16 = 5 := rfl
theorem m16_92 : (92 : Nat) % 16 = 12 := rfl
theorem d16_93 : (93 : Nat) / 16 = 5 := rfl
theorem m16_93 : (93 : Nat) % 16 = 13 := rfl
theorem d16_94 : (94 : Nat) / 16 = 5 := rfl
theorem m16_94 : (94 : Nat) % 16 = 14 := rfl
theorem d16_95 : (95 : Nat) / 16 = 5 := rfl
theorem m16_95 : (95 : Nat) % 16 = 15 := rfl
theorem d16_96 : (96 : Nat) / 16 = 6 := rfl
theorem m16_96 : (96 : Nat) % 16 = 0 := rfl
theorem d16_97 : (97 : Nat) / 16 = 6 := rfl
theorem m16_97 : (97 : Nat) % 16 = 1 := rfl
theorem d16_98 : (98 : Nat) / 16 = 6 := rfl
theorem m16_98 : (98 : Nat) % 16 = 2 := rfl
theorem d16_99 : (99 : Nat) / 16 = 6 := rfl
theorem m16_99 : (99 : Nat) % 16 = 3 := rfl
theorem d16_100 : (100 : Nat) / 16 = 6 := rfl
theorem m16_100 : (100 : Nat) % 16 = 4 := rfl
theorem d16_101 : (101 : Nat) / 16 = 6 := rfl
theorem m16_101 : (101 : Nat) % 16 = 5 := rfl
theorem d16_102 : (102 : Nat) / 16 = 6 := rfl
theorem m16_102 : (102 : Nat) % 16 = 6 := rfl
theorem d16_103 : (103 : Nat) / 16 = 6 := rfl
theorem m16_103 : (103 : Nat) % 16 = 7 := rfl
theorem d16_104 : (104 : Nat) / 16 = 6 := rfl
theorem m16_104 : (104 : Nat) % 16 = 8 := rfl
theorem d16_105 : (105 : Nat) / 16 = 6 := rfl
theorem m16_105 : (105 : Nat) % 16 = 9 := rfl
theorem d16_106 : (106 : Nat) / 16 = 6 := rfl
theorem m16_106 : (106 : Nat) % 16 = 10 := rfl
theorem d16_107 : (107 : Nat) / 16 = 6 := rfl
theorem m16_107 : (107 : Nat) % 16 = 11 := rfl
theorem d16_108 : (108 : Nat) / 16 = 6 := rfl
theorem m16_108 : (108 : Nat) % 16 = 12 := rfl
theorem d16_109 : (109 : Nat) / 16 = 6 := rfl
theorem m16_109 : (109 : Nat) % 16 = 13 := rfl
theorem d16_110 : (110 : Nat) / 16 = 6 := rfl
theorem m16_110 : (110 : Nat) % 16 = 14 := rfl
theorem d16_111 : (111 : Nat) / 16 = 6 := rfl
theorem m16_111 : (111 : Nat) % 16 = 15 := rfl
theorem d16_112 : (112 : Nat) / 16 = 7 := rfl
theorem m16_112 : (112 : Nat) % 16 = 0 := rfl
theorem d16_113 : (113 : Nat) / 16 = 7 := rfl
theorem m16_113 : (113 : Nat) % 16 = 1 := rfl
theorem d16_114 : (114 : Nat) / 16 = 7 := rfl
theorem m16_114 : (114 : Nat) % 16 = 2 := rfl
theorem d16_115 : (115 : Nat) / 16 = 7 := rfl
theorem m16_115 : (115 : Nat) % 16 = 3 := rfl
theorem d16_116 : (116 : Nat) / 16 = 7 := rfl
theorem m16_116 : (116 : Nat) % 16 = 4 := rfl
theorem d16_117 : (117 : Nat) / 16 = 7 := rfl
theorem m16_117 : (117 : Nat) % 16 = 5 := rfl
theorem d16_118 : (118 : Nat) / 16 = 7 := rfl
theorem m16_118 : (118 : Nat) % 16 = 6 := rfl
theorem d16_119 : (119 : Nat) / 16 = 7 := rfl
theorem m16_119 : (119 : Nat) % 16 = 7 := rfl
theorem d16_120 : (120 : Nat) / 16 = 7 := rfl
theorem m16_120 : (120 : Nat) % 16 = 8 := rfl
theorem d16_121 : (121 : Nat) / 16 = 7 := rfl
theorem m16_121 : (121 : Nat) % 16 = 9 := rfl
theorem d16_122 : (122 : Nat) / 16 = 7 := rfl
theorem m16_122 : (122 : Nat) % 16 = 10 := rfl
theorem d16_123 : (123 : Nat) / 16 = 7 := rfl
theorem m16_123 : (123 : Nat) % 16 = 11 := rfl
theorem d16_124 : (124 : Nat) / 16 = 7 := rfl
theorem m16_124 : (124 : Nat) % 16 = 12 := rfl
theorem d16_125 : (125 : Nat) / 16 = 7 := rfl
theorem m16_125 : (125 : Nat) % 16 = 13 := rfl
theorem d16_126 : (126 : Nat) / 16 = 7 := rfl
theorem m16_126 : (126 : Nat) % 16 = 14 := rfl
theorem d16_127 : (127 : Nat) / 16 = 7 := rfl
theorem m16_127 : (127 : Nat) % 16 = 15 := rfl
theorem d16_128 : (128 : Nat) / 16 = 8 := rfl
theorem m16_128 : (128 : Nat) % 16 = 0 := rfl
theorem d16_129 : (129 : Nat) / 16 = 8 := rfl
theorem m16_129 : (129 : Nat) % 16 = 1 := rfl
theorem d16_130 : (130 : Nat) / 16 = 8 := rfl
theorem m16_130 : (130 : Nat) % 16 = 2 := rfl
theorem d16_131 : (131 : Nat) / 16 = 8 := rfl
theorem m16_131 : (131 : Nat) % 16 = 3 := rfl
theorem d16_132 : (132 : Nat) / 16 = 8 := rfl
theorem m16_132 : (132 : Nat) % 16 = 4 := rfl
theorem d16_133 : (133 : Nat) / 16 = 8 := rfl
theorem m16_133 : (133 : Nat) % 16 = 5 := rfl
theorem d16_134 : (134 : Nat) / 16 = 8 := rfl
theorem m16_134 : (134 : Nat) % 16 = 6 := rfl
theorem d16_135 : (135 : Nat) / 16 = 8 := rfl
theorem m16_135 : (135 : Nat) % 16 = 7 := rfl
theorem d16_136 : (136 : Nat) / 16 = 8 := rfl
theorem m16_136 : (136 : Nat) % 16 = 8 := rfl
theorem d16_137 : (137 : Nat) / 16 = 8 := rfl
theorem m16_137 : (137 : Nat) % 16 = 9 := rfl
theorem d16_138 : (138 : Nat) / 16 = 8 := rfl
theorem m16_138 : (138 : Nat) % 16 = 10 := rfl
theorem d16_139 : (139 : Nat) / 16 = 8 := rfl
theorem m16_139 : (139 : Nat) % 16 = 11 := rfl
theorem d16_140 : (140 : Nat) / 16 = 8 := rfl
theorem m16_140 : (140 : Nat) % 16 = 12 := rfl
theorem d16_141 : (141 : Nat) / 16 = 8 := rfl
theorem m16_141 : (141 : Nat) % 16 = 13 := rfl
theorem d16_142 : (142 : Nat) / 16 = 8 := rfl
theorem m16_142 : (142 : Nat) % 16 = 14 := rfl
theorem d16_143 : (143 : Nat) / 16 = 8 := rfl
theorem m16_143 : (143 : Nat) % 16 = 15 := rfl
theorem d16_144 : (144 : Nat) / 16 = 9 := rfl
theorem m16_144 : (144 : Nat) % 16 = 0 := rfl
theorem d16_145 : (145 : Nat) / 16 = 9 := rfl
theorem m16_145 : (145 : Nat) % 16 = 1 := rfl
theorem d16_146 : (146 : Nat) / 16 = 9 := rfl
theorem m16_146 : (146 : Nat) % 16 = 2 := rfl
theorem d16_147 : (147 : Nat) / 16 = 9 := rfl
theorem m16_147 : (147 : Nat) % 16 = 3 := rfl
theorem d16_148 : (148 : Nat) / 16 = 9 := rfl
theorem m16_148 : (148 : Nat) % 16 = 4 := rfl
theorem d16_149 : (149 : Nat) / 16 = 9 := rfl
theorem m16_149 : (149 : Nat) % 16 = 5 := rfl
theorem d16_150 : (150 : Nat) / 16 = 9 := rfl
theorem m16_150 : (150 : Nat) % 16 = 6 := rfl
theorem d16_151 : (151 : Nat) / 16 = 9 := rfl
theorem m16_151 : (151 : Nat) % 16 = 7 := rfl
theorem d16_152 : (152 : Nat) / 16 = 9 := rfl
theorem m16_152 : (152 : Nat) % 16 = 8 := rfl
theorem d16_153 : (153 : Nat) / 16 = 9 := rfl
theorem m16_153 : (153 : Nat) % 16 = 9 := rfl
theorem d16_154 : (154 : Nat) / 16 = 9 := rfl
theorem m16_154 : (154 : Nat) % 16 = 10 := rfl
theorem d16_155 : (155 : Nat) / 16 = 9 := rfl
theorem m16_155 : (155 : Nat) % 16 = 11 := rfl
theorem d16_156 : (156 : Nat) / 16 = 9 := rfl
theorem m16_156 : (156 : Nat) % 16 = 12 := rfl
theorem d16_157 : (157 : Nat) / 16 = 9 := rfl
theorem m16_157 : (157 : Nat) % 16 = 13 := rfl
theorem d16_158 : (158 : Nat) / 16 = 9 := rfl
theorem m16_158 : (158 : Nat) % 16 = 14 := rfl
theorem d16_159 : (159 : Nat) / 16 = 9 := rfl
theorem m16_159 : (159 : Nat) % 16 = 15 := rfl
theorem d16_160 : (160 : Nat) / 16 = 10 := rfl
theorem m16_160 : (160 : Nat) % 16 = 0 := rfl
theorem d16_161 : (161 : Nat) / 16 = 10 := rfl
theorem m16_161 : (161 : Nat) % 16 = 1 := rfl
theorem d16_162 : (162 : Nat) / 16 = 10 := rfl
theorem m16_162 : (162 : Nat) % 16 = 2 := rfl
theorem d16_163 : (163 : Nat) / 16 = 10 := rfl
theorem m16_163 : (163 : Nat) % 16 = 3 := rfl
theorem d16_164 : (164 : Nat) / 16 = 10 := rfl
theorem m16_164 : (164 : Nat) % 16 = 4 := rfl
theorem d16_165 : (165 : Nat) / 16 = 10 := rfl
theorem m16_165 : (165 : Nat) % 16 = 5 := rfl
theorem d16_166 : (166 : Nat) / 16 = 10 := rfl
theorem m16_166 : (166 : Nat) % 16 = 6 := rfl
theorem d16_167 : (167 : Nat) / 16 = 10 := rfl
theorem m16_167 : (167 : Nat) % 16 = 7 := rfl
theorem d16_168 : (168 : Nat) / 16 = 10 := rfl
theorem m16_168 : (168 : Nat) % 16 = 8 := rfl
theorem d16_169 : (169 : Nat) / 16 = 10 := rfl
theorem m16_169 : (169 : Nat) % 16 = 9 := rfl
theorem d16_170 : (170 : Nat) / 16 = 10 := rfl
theorem m16_170 : (170 : Nat) % 16 = 10 := rfl
theorem d16_171 : (171 : Nat) / 16 = 10 := rfl
theorem m16_171 : (171 : Nat) % 16 = 11 := rfl
theorem d16_172 : (172 : Nat) / 16 = 10 := rfl
theorem m16_172 : (172 : Nat) % 16 = 12 := rfl
theorem d16_173 : (173 : Nat) / 16 = 10 := rfl
theorem m16_173 : (173 : Nat) % 16 = 13 := rfl
theorem d16_174 : (174 : Nat) / 16 = 10 := rfl
theorem m16_174 : (174 : Nat) % 16 = 14 := rfl
theorem d16_175 : (175 : Nat) / 16 = 10 := rfl
theorem m16_175 : (175 : Nat) % 16 = 15 := rfl
theorem d16_176 : (176 : Nat) / 16 = 11 := rfl
theorem m16_176 : (176 : Nat) % 16 = 0 := rfl
theorem d16_177 : (177 : Nat) / 16 = 11 := rfl
theorem m16_177 : (177 : Nat) % 16 = 1 := rfl
theorem d16_178 : (178 : Nat) / 16 = 11 := rfl
theorem m16_178 : (178 : Nat) % 16 = 2 := rfl
theorem d16_179 : (179 : Nat) / 16 = 11 := rfl
theorem m16_179 : (179 : Nat) % 16 = 3 := rfl
theorem d16_180 : (180 : Nat) / 16 = 11 := rfl
theorem m16_180 : (180 : Nat) % 16 = 4 := rfl
theorem d16_181 : (181 : Nat) / 16 = 11 := rfl
theorem m16_181 : (181 : Nat) % 16 = 5 := rfl
theorem d16_182 : (182 : Nat) / 16 = 11 := rfl
theorem m16_182 : (182 : Nat) % 16 = 6 := rfl
theorem d16_183 : (183 : Nat) / 16 = 11 := rfl
theorem m16_183 : (183 : Nat) % 16 = 7 := rfl
theorem d16_184 : (184 : Nat) / 16 = 11 := rfl
theorem m16_184 : (184 : Nat) % 16 = 8 := rfl
theorem d16_185 : (185 : Nat) / 16 = 11 := rfl
theorem m16_185 : (185 : Nat) % 16 = 9 := rfl
theorem d16_186 : (186 : Nat) / 16 = 11 := rfl
theorem m16_186 : (186 : Nat) % 16 = 10 := rfl
theorem d16_187 : (187 : Nat) / 16 = 11 := rfl
theorem m16_187 : (187 : Nat) % 16 = 11 := rfl
theorem d16_188 : (188 : Nat) / 16 = 11 := rfl
theorem m16_188 : (188 : Nat) % 16 = 12 := rfl
theorem d16_189 : (189 : Nat) / 16 = 11 := rfl
theorem m16_189 : (189 : Nat) % 16 = 13 := rfl
theorem d16_190 : (190 : Nat) / 16 = 11 := rfl
theorem m16_190 : (190 : Nat) % 16 = 14 := rfl
theorem d16_191 : (191 : Nat) / 16 = 11 := rfl
theorem m16_191 : (191 : Nat) % 16 = 15 := rfl
theorem d16_192 : (192 : Nat) / 16 = 12 := rfl
theorem m16_192 : (192 : Nat) % 16 = 0 := rfl
theorem d16_193 : (193 : Nat) / 16 = 12 := rfl
theorem m16_193 : (193 : Nat) % 16 = 1 := rfl
theorem d16_194 : (194 : Nat) / 16 = 12 := rfl
theorem m16_194 : (194 : Nat) % 16 = 2 := rfl
theorem d16_195 : (195 : Nat) / 16 = 12 := rfl
theorem m16_195 : (195 : Nat) % 16 = 3 := rfl
theorem d16_196 : (196 : Nat) / 16 = 12 := rfl
theorem m16_196 : (196 : Nat) % 16 = 4 := rfl
theorem d16_197 : (197 : Nat) / 16 = 12 := rfl
theorem m16_197 : (197 : Nat) % 16 = 5 := rfl
theorem d16_198 : (198 : Nat) / 16 = 12 := rfl
theorem m16_198 : (198 : Nat) % 16 = 6 := rfl
theorem d16_199 : (199 : Nat) / 16 = 12 := rfl
theorem m16_199 : (199 : Nat) % 16 = 7 := rfl
theorem d16_200 : (200 : Nat) / 16 = 12 := rfl
theorem m16_200 : (200 : Nat) % 16 = 8 := rfl
theorem d16_201 : (201 : Nat) / 16 = 12 := rfl
theorem m16_201 : (201 : Nat) % 16 = 9 := rfl
theorem d16_202 : (202 : Nat) / 16 = 12 := rfl
theorem m16_202 : (202 : Nat) % 16 = 10 := rfl
theorem d16_203 : (203 : Nat) / 16 = 12 := rfl
theorem m16_203 : (203 : Nat) % 16 = 11 := rfl
theorem d16_204 : (204 : Nat) / 16 = 12 := rfl
theorem m16_204 : (204 : Nat) % 16 = 12 := rfl
theorem d16_205 : (205 : Nat) / 16 = 12 := rfl
theorem m16_205 : (205 : Nat) % 16 = 13 := rfl
theorem d16_206 : (206 : Nat) / 16 = 12 := rfl
theorem m16_206 : (206 : Nat) % 16 = 14 := rfl
theorem d16_207 : (207 : Nat) / 16 = 12 := rfl
theorem m16_207 : (207 : Nat) % 16 = 15 := rfl
theorem d16_208 : (208 : Nat) / 16 = 13 := rfl
theorem m16_208 : (208 : Nat) % 16 = 0 := rfl
theorem d16_209 : (209 : Nat) / 16 = 13 := rfl
theorem m16_209 : (209 : Nat) % 16 = 1 := rfl
theorem d16_210 : (210 : Nat) / 16 = 13 := rfl
theorem m16_210 : (210 : Nat) % 16 = 2 := rfl
theorem d16_211 : (211 : Nat) / 16 = 13 := rfl
theorem m16_211 : (211 : Nat) % 16 = 3 := rfl
theorem d16_212 : (212 : Nat) / 16 = 13 := rfl
theorem m16_212 : (212 : Nat) % 16 = 4 := rfl
theorem d16_213 : (213 : Nat) / 16 = 13 := rfl
theorem m16_213 : (213 : Nat) % 16 = 5 := rfl
theorem d16_214 : (214 : Nat) / 16 = 13 := rfl
theorem m16_214 : (214 : Nat) % 16 = 6 := rfl
theorem d16_215 : (215 : Nat) / 16 = 13 := rfl
theorem m16_215 : (215 : Nat) % 16 = 7 := rfl
theorem d16_216 : (216 : Nat) / 16 = 13 := rfl
theorem m16_216 : (216 : Nat) % 16 = 8 := rfl
theorem d16_217 : (217 : Nat) / 16 = 13 := rfl
theorem m16_217 : (217 : Nat) % 16 = 9 := rfl
theorem d16_218 : (218 : Nat) / 16 = 13 := rfl
theorem m16_218 : (218 : Nat) % 16 = 10 := rfl
theorem d16_219 : (219 : Nat) / 16 = 13 := rfl
theorem m16_219 : (219 : Nat) % 16 = 11 := rfl
theorem d16_220 : (220 : Nat) / 16 = 13 := rfl
theorem m16_220 : (220 : Nat) % 16 = 12 := rfl
theorem d16_221 : (221 : Nat) / 16 = 13 := rfl
theorem m16_221 : (221 : Nat) % 16 = 13 := rfl
theorem d16_222 : (222 : Nat) / 16 = 13 := rfl
theorem m16_222 : (222 : Nat) % 16 = 14 := rfl
theorem d16_223 : (223 : Nat) / 16 = 13 := rfl
theorem m16_223 : (223 : Nat) % 16 = 15 := rfl
theorem d16_224 : (224 : Nat) / 16 = 14 := rfl
theorem m16_224 : (224 : Nat) % 16 = 0 := rfl
theorem d16_225 : (225 : Nat) / 16 = 14 := rfl
theorem m16_225 : (225 : Nat) % 16 = 1 := rfl
theorem d16_226 : (226 : Nat) / 16 = 14 := rfl
theorem m16_226 : (226 : Nat) % 16 = 2 := rfl
theorem d16_227 : (227 : Nat) / 16 = 14 := rfl
theorem m16_227 : (227 : Nat) % 16 = 3 := rfl
theorem d16_228 : (228 : Nat) / 16 = 14 := rfl
theorem m16_228 : (228 : Nat) % 16 = 4 := rfl
theorem d16_229 : (229 : Nat) / 16 = 14 := rfl
theorem m16_229 : (229 : Nat) % 16 = 5 := rfl
theorem d16_230 : (230 : Nat) / 16 = 14 := rfl
theorem m16_230 : (230 : Nat) % 16 = 6 := rfl
theorem d16_231 : (231 : Nat) / 16 = 14 := rfl
theorem m16_231 : (231 : Nat) % 16 = 7 := rfl
theorem d16_232 : (232 : Nat) / 16 = 14 := rfl
theorem m16_232 : (232 : Nat) % 16 = 8 := rfl
theorem d16_233 : (233 : Nat) / 16 = 14 := rfl
theorem m16_233 : (233 : Nat) % 16 = 9 := rfl
theorem d16_234 : (234 : Nat) / 16 = 14 := rfl
theorem m16_234 : (234 : Nat) % 16 = 10 := rfl
theorem d16_235 : (235 : Nat) / 16 = 14 := rfl
theorem m16_235 : (235 : Nat) % 16 = 11 := rfl
theorem d16_236 : (236 : Nat) / 16 = 14 := rfl
theorem m16_236 : (236 : Nat) % 16 = 12 := rfl
theorem d16_237 : (237 : Nat) / 16 = 14 := rfl
theorem m16_237 : (237 : Nat) % 16 = 13 := rfl
theorem d16_238 : (238 : Nat) / 16 = 14 := rfl
theorem m16_238 : (238 : Nat) % 16 = 14 := rfl
theorem d16_239 : (239 : Nat) / 16 = 14 := rfl
theorem m16_239 : (239 : Nat) % 16 = 15 := rfl
theorem d16_240 : (240 : Nat) / 16 = 15 := rfl
theorem m16_240 : (240 : Nat) % 16 = 0 := rfl
theorem d16_241 : (241 : Nat) / 16 = 15 := rfl
theorem m16_241 : (241 : Nat) % 16 = 1 := rfl
theorem d16_242 : (242 : Nat) / 16 = 15 := rfl
theorem m16_242 : (242 : Nat) % 16 = 2 := rfl
theorem d16_243 : (243 : Nat) / 16 = 15 := rfl
theorem m16_243 : (243 : Nat) % 16 = 3 := rfl
theorem d16_244 : (244 : Nat) / 16 = 15 := rfl
theorem m16_244 : (244 : Nat) % 16 = 4 := rfl
theorem d16_245 : (245 : Nat) / 16 = 15 := rfl
theorem m16_245 : (245 : Nat) % 16 = 5 := rfl
theorem d16_246 : (246 : Nat) / 16 = 15 := rfl
theorem m16_246 : (246 : Nat) % 16 = 6 := rfl
theorem d16_247 : (247 : Nat) / 16 = 15 := rfl
theorem m16_247 : (247 : Nat) % 16 = 7 := rfl
theorem d16_248 : (248 : Nat) / 16 = 15 := rfl
theorem m16_248 : (248 : Nat) % 16 = 8 := rfl
theorem d16_249 : (249 : Nat) / 16 = 15 := rfl
theorem m16_249 : (249 : Nat) % 16 = 9 := rfl
theorem d16_250 : (250 : Nat) / 16 = 15 := rfl
theorem m16_250 : (250 : Nat) % 16 = 10 := rfl
theorem d16_251 : (251 : Nat) / 16 = 15 := rfl
theorem m16_251 : (251 : Nat) % 16 = 11 := rfl
theorem d16_252 : (252 : Nat) / 16 = 15 := rfl
theorem m16_252 : (252 : Nat) % 16 = 12 := rfl
theorem d16_253 : (253 : Nat) / 16 = 15 := rfl
theorem m16_253 : (253 : Nat) % 16 = 13 := rfl
theorem d16_254 : (254 : Nat) / 16 = 15 := rfl
theorem m16_254 : (254 : Nat) % 16 = 14 := rfl
theorem d16_255 : (255 : Nat) / 16 = 15 := rfl
theorem m16_255 : (255 : Nat) % 16 = 15 := rfl
theorem d16_256 : (256 : Nat) / 16 = 16 := rfl
theorem m16_256 : (256 : Nat) % 16 = 0 := rfl
theorem d16_257 : (257 : Nat) / 16 = 16 := rfl
theorem m16_257 : (257 : Nat) % 16 = 1 := rfl
theorem d16_258 : (258 : Nat) / 16 = 16 := rfl
theorem m16_258 : (258 : Nat) % 16 = 2 := rfl
theorem d16_259 : (259 : Nat) / 16 = 16 := rfl
theorem m16_259 : (259 : Nat) % 16 = 3 := rfl
theorem d16_260 : (260 : Nat) / 16 = 16 := rfl
theorem m16_260 : (260 : Nat) % 16 = 4 := rfl
theorem d16_261 : (261 : Nat) / 16 = 16 := rfl
theorem m16_261 : (261 : Nat) % 16 = 5 := rfl
theorem d16_262 : (262 : Nat) / 16 = 16 := rfl
theorem m16_262 : (262 : Nat) % 16 = 6 := rfl
theorem d16_263 : (263 : Nat) / 16 = 16 := rfl
theorem m16_263 : (263 : Nat) % 16 = 7 := rfl
theorem d16_264 : (264 : Nat) / 16 = 16 := rfl
theorem m16_264 : (264 : Nat) % 16 = 8 := rfl
theorem d16_265 : (265 : Nat) / 16 = 16 := rfl
theorem m16_265 : (265 : Nat) % 16 = 9 := rfl
theorem d16_266 : (266 : Nat) / 16 = 16 := rfl
theorem m16_266 : (266 : Nat) % 16 = 10 := rfl
theorem d16_267 : (267 : Nat) / 16 = 16 := rfl
theorem m16_267 : (267 : Nat) % 16 = 11 := rfl
theorem d16_268 : (268 : Nat) / 16 = 16 := rfl
theorem m16_268 : (268 : Nat) % 16 = 12 := rfl
theorem d16_269 : (269 : Nat) / 16 = 16 := rfl
theorem m16_269 : (269 : Nat) % 16 = 13 := rfl
theorem d16_270 : (270 : Nat) / 16 = 16 := rfl
theorem m16_270 : (270 : Nat) % 16 = 14 := rfl
theorem d16_271 : (271 : Nat) / 16 = 16 := rfl
theorem m16_271 : (271 : Nat) % 16 = 15 := rfl
theorem d16_272 : (272 : Nat) / 16 = 17 := rfl
theorem m16_272 : (272 : Nat) % 16 = 0 := rfl
theorem d16_273 : (273 : Nat) / 16 = 17 := rfl
theorem m16_273 : (273 : Nat) % 16 = 1 := rfl
theorem d16_274 : (274 : Nat) / 16 = 17 := rfl
theorem m16_274 : (274 : Nat) % 16 = 2 := rfl
theorem d16_275 : (275 : Nat) / 16 = 17 := rfl
theorem m16_275 : (275 : Nat) % 16 = 3 := rfl
theorem d16_276 : (276 : Nat) / 16 = 17 := rfl
theorem m16_276 : (276 : Nat) % 16 = 4 := rfl
theorem d16_277 : (277 : Nat) / 16 = 17 := rfl
theorem m16_277 : (277 : Nat) % 16 = 5 := rfl
theorem d16_278 : (278 : Nat) / 16 = 17 := rfl
theorem m16_278 : (278 : Nat) % 16 = 6 := rfl
theorem d16_279 : (279 : Nat) / 16 = 17 := rfl
theorem m16_279 : (279 : Nat) % 16 = 7 := rfl
theorem d16_280 : (280 : Nat) / 16 = 17 := rfl
theorem m16_280 : (280 : Nat) % 16 = 8 := rfl
theorem d16_281 : (281 : Nat) / 16 = 17 := rfl
theorem m16_281 : (281 : Nat) % 16 = 9 := rfl
theorem d16_282 : (282 : Nat) / 16 = 17 := rfl
theorem m16_282 : (282 : Nat) % 16 = 10 := rfl
theorem d16_283 : (283 : Nat) / 16 = 17 := rfl
theorem m16_283 : (283 : Nat) % 16 = 11 := rfl
theorem d16_284 : (284 : Nat) / 16 = 17 := rfl
theorem m16_284 : (284 : Nat) % 16 = 12 := rfl
theorem d16_285 : (285 : Nat) / 16 = 17 := rfl
theorem m16_285 : (285 : Nat) % 16 = 13 := rfl
theorem d16_286 : (286 : Nat) / 16 = 17 := rfl
theorem m16_286 : (286 : Nat) % 16 = 14 := rfl
theorem d16_287 : (287 : Nat) / 16 = 17 := rfl
theorem m16_287 : (287 : Nat) % 16 = 15 := rfl
theorem d16_288 : (288 : Nat) / 16 = 18 := rfl
theorem m16_288 : (288 : Nat) % 16 = 0 := rfl
theorem d16_289 : (289 : Nat) / 16 = 18 := rfl
theorem m16_289 : (289 : Nat) % 16 = 1 := rfl
theorem d16_290 : (290 : Nat) / 16 = 18 := rfl
theorem m16_290 : (290 : Nat) % 16 = 2 := rfl
theorem d16_291 : (291 : Nat) / 16 = 18 := rfl
theorem m16_291 : (291 : Nat) % 16 = 3 := rfl
theorem d16_292 : (292 : Nat) / 16 = 18 := rfl
theorem m16_292 : (292 : Nat) % 16 = 4 := rfl
theorem d16_293 : (293 : Nat) / 16 = 18 := rfl
theorem m16_293 : (293 : Nat) % 16 = 5 := rfl
theorem d16_294 : (294 : Nat) / 16 = 18 := rfl
theorem m16_294 : (294 : Nat) % 16 = 6 := rfl
theorem d16_295 : (295 : Nat) / 16 = 18 := rfl
theorem m16_295 : (295 : Nat) % 16 = 7 := rfl
theorem d16_296 : (296 : Nat) / 16 = 18 := rfl
theorem m16_296 : (296 : Nat) % 16 = 8 := rfl
theorem d16_297 : (297 : Nat) / 16 = 18 := rfl
theorem m16_297 : (297 : Nat) % 16 = 9 := rfl
theorem d16_298 : (298 : Nat) / 16 = 18 := rfl
theorem m16_298 : (298 : Nat) % 16 = 10 := rfl
theorem d16_299 : (299 : Nat) / 16 = 18 := rfl
theorem m16_299 : (299 : Nat) % 16 = 11 := rfl
theorem d16_300 : (300 : Nat) / 16 = 18 := rfl
theorem m16_300 : (300 : Nat) % 16 = 12 := rfl
theorem d16_301 : (301 : Nat) / 16 = 18 := rfl
theorem m16_301 : (301 : Nat) % 16 = 13 := rfl
theorem d16_302 : (302 : Nat) / 16 = 18 := rfl
theorem m16_302 : (302 : Nat) % 16 = 14 := rfl
theorem d16_303 : (303 : Nat) / 16 = 18 := rfl
theorem m16_303 : (303 : Nat) % 16 = 15 := rfl
theorem d16_304 : (304 : Nat) / 16 = 19 := rfl
theorem m16_304 : (304 : Nat) % 16 = 0 := rfl
theorem d16_305 : (305 : Nat) / 16 = 19 := rfl
theorem m16_305 : (305 : Nat) % 16 = 1 := rfl
theorem d16_306 : (306 : Nat) / 16 = 19 := rfl
theorem m16_306 : (306 : Nat) % 16 = 2 := rfl
theorem d16_307 : (307 : Nat) / 16 = 19 := rfl
theorem m16_307 : (307 : Nat) % 16 = 3 := rfl
theorem d16_308 : (308 : Nat) / 16 = 19 := rfl
theorem m16_308 : (308 : Nat) % 16 = 4 := rfl
theorem d16_309 : (309 : Nat) / 16 = 19 := rfl
theorem m16_309 : (309 : Nat) % 16 = 5 := rfl
theorem d16_310 : (310 : Nat) / 16 = 19 := rfl
theorem m16_310 : (310 : Nat) % 16 = 6 := rfl
theorem d16_311 : (311 : Nat) / 16 = 19 := rfl
theorem m16_311 : (311 : Nat) % 16 = 7 := rfl
theorem d16_312 : (312 : Nat) / 16 = 19 := rfl
theorem m16_312 : (312 : Nat) % 16 = 8 := rfl
theorem d16_313 : (313 : Nat) / 16 = 19 := rfl
theorem m16_313 : (313 : Nat) % 16 = 9 := rfl
theorem d16_314 : (314 : Nat) / 16 = 19 := rfl
theorem m16_314 : (314 : Nat) % 16 = 10 := rfl
theorem d16_315 : (315 : Nat) / 16 = 19 := rfl
theorem m16_315 : (315 : Nat) % 16 = 11 := rfl
theorem d16_316 : (316 : Nat) / 16 = 19 := rfl
theorem m16_316 : (316 : Nat) % 16 = 12 := rfl
theorem d16_317 : (317 : Nat) / 16 = 19 := rfl
theorem m16_317 : (317 : Nat) % 16 = 13 := rfl
theorem d16_318 : (318 : Nat) / 16 = 19 := rfl
theorem m16_318 : (318 : Nat) % 16 = 14 := rfl
theorem d16_319 : (319 : Nat) / 16 = 19 := rfl
theorem m16_319 : (319 : Nat) % 16 = 15 := rfl
theorem d16_320 : (320 : Nat) / 16 = 20 := rfl
theorem m16_320 : (320 : Nat) % 16 = 0 := rfl
theorem d16_321 : (321 : Nat) / 16 = 20 := rfl
theorem m16_321 : (321 : Nat) % 16 = 1 := rfl
theorem d16_322 : (322 : Nat) / 16 = 20 := rfl
theorem m16_322 : (322 : Nat) % 16 = 2 := rfl
theorem d16_323 : (323 : Nat) / 16 = 20 := rfl
theorem m16_323 : (323 : Nat) % 16 = 3 := rfl
theorem d16_324 : (324 : Nat) / 16 = 20 := rfl
theorem m16_324 : (324 : Nat) % 16 = 4 := rfl
theorem d16_325 : (325 : Nat) / 16 = 20 := rfl
theorem m16_325 : (325 : Nat) % 16 = 5 := rfl
theorem d16_326 : (326 : Nat) / 16 = 20 := rfl
theorem m16_326 : (326 : Nat) % 16 = 6 := rfl
theorem d16_327 : (327 : Nat) / 16 = 20 := rfl
theorem m16_327 : (327 : Nat) % 16 = 7 := rfl
theorem d16_328 : (328 : Nat) / 16 = 20 := rfl
theorem m16_328 : (328 : Nat) % 16 = 8 := rfl
theorem d16_329 : (329 : Nat) / 16 = 20 := rfl
theorem m16_329 : (329 : Nat) % 16 = 9 := rfl
theorem d16_330 : (330 : Nat) / 16 = 20 := rfl
theorem m16_330 : (330 : Nat) % 16 = 10 := rfl
theorem d16_331 : (331 : Nat) / 16 = 20 := rfl
theorem m16_331 : (331 : Nat) % 16 = 11 := rfl
theorem d16_332 : (332 : Nat) / 16 = 20 := rfl
theorem m16_332 : (332 : Nat) % 16 = 12 := rfl
theorem d16_333 : (333 : Nat) / 16 = 20 := rfl
theorem m16_333 : (333 : Nat) % 16 = 13 := rfl
theorem d16_334 : (334 : Nat) / 16 = 20 := rfl
theorem m16_334 : (334 : Nat) % 16 = 14 := rfl
theorem d16_335 : (335 : Nat) / 16 = 20 := rfl
theorem m16_335 : (335 : Nat) % 16 = 15 := rfl
theorem d16_336 : (336 : Nat) / 16 = 21 := rfl
theorem m16_336 : (336 : Nat) % 16 = 0 := rfl
theorem d16_337 : (337 : Nat) / 16 = 21 := rfl
theorem m16_337 : (337 : Nat) % 16 = 1 := rfl
theorem d16_338 : (338 : Nat) / 16 = 21 := rfl
theorem m16_338 : (338 : Nat) % 16 = 2 := rfl
theorem d16_339 : (339 : Nat) / 16 = 21 := rfl
theorem m16_339 : (339 : Nat) % 16 = 3 := rfl
theorem d16_340 : (340 : Nat) / 16 = 21 := rfl
theorem m16_340 : (340 : Nat) % 16 = 4 := rfl
theorem d16_341 : (341 : Nat) / 16 = 21 := rfl
theorem m16_341 : (341 : Nat) % 16 = 5 := rfl
theorem d16_342 : (342 : Nat) / 16 = 21 := rfl
theorem m16_342 : (342 : Nat) % 16 = 6 := rfl
theorem d16_343 : (343 : Nat) / 16 = 21 := rfl
theorem m16_343 : (343 : Nat) % 16 = 7 := rfl
theorem d16_344 : (344 : Nat) / 16 = 21 := rfl
theorem m16_344 : (344 : Nat) % 16 = 8 := rfl
theorem d16_345 : (345 : Nat) / 16 = 21 := rfl
theorem m16_345 : (345 : Nat) % 16 = 9 := rfl
theorem d16_346 : (346 : Nat) / 16 = 21 := rfl
theorem m16_346 : (346 : Nat) % 16 = 10 := rfl
theorem d16_347 : (347 : Nat) / 16 = 21 := rfl
theorem m16_347 : (347 : Nat) % 16 = 11 := rfl
theorem d16_348 : (348 : Nat) / 16 = 21 := rfl
theorem m16_348 : (348 : Nat) % 16 = 12 := rfl
theorem d16_349 : (349 : Nat) / 16 = 21 := rfl
theorem m16_349 : (349 : Nat) % 16 = 13 := rfl
theorem d16_350 : (350 : Nat) / 16 = 21 := rfl
theorem m16_350 : (350 : Nat) % 16 = 14 := rfl
theorem d16_351 : (351 : Nat) / 16 = 21 := rfl
theorem m16_351 : (351 : Nat) % 16 = 15 := rfl
theorem d16_352 : (352 : Nat) / 16 = 22 := rfl
theorem m16_352 : (352 : Nat) % 16 = 0 := rfl
theorem d16_353 : (353 : Nat) / 16 = 22 := rfl
theorem m16_353 : (353 : Nat) % 16 = 1 := rfl
theorem d16_354 : (354 : Nat) / 16 = 22 := rfl
theorem m16_354 : (354 : Nat) % 16 = 2 := rfl
theorem d16_355 : (355 : Nat) / 16 = 22 := rfl
theorem m16_355 : (355 : Nat) % 16 = 3 := rfl
theorem d16_356 : (356 : Nat) / 16 = 22 := rfl
theorem m16_356 : (356 : Nat) % 16 = 4 := rfl
theorem d16_357 : (357 : Nat) / 16 = 22 := rfl
theorem m16_357 : (357 : Nat) % 16 = 5 := rfl
theorem d16_358 : (358 : Nat) / 16 = 22 := rfl
theorem m16_358 : (358 : Nat) % 16 = 6 := rfl
theorem d16_359 : (359 : Nat) / 16 = 22 := rfl
theorem m16_359 : (359 : Nat) % 16 = 7 := rfl
theorem d16_360 : (360 : Nat) / 16 = 22 := rfl
theorem m16_360 : (360 : Nat) % 16 = 8 := rfl
theorem d16_361 : (361 : Nat) / 16 = 22 := rfl
theorem m16_361 : (361 : Nat) % 16 = 9 := rfl
theorem d16_362 : (362 : Nat) / 16 = 22 := rfl
theorem m16_362 : (362 : Nat) % 16 = 10 := rfl
theorem d16_363 : (363 : Nat) / 16 = 22 := rfl
theorem m16_363 : (363 : Nat) % 16 = 11 := rfl
theorem d16_364 : (364 : Nat) / 16 = 22 := rfl
theorem m16_364 : (364 : Nat) % 16 = 12 := rfl
theorem d16_365 : (365 : Nat) / 16 = 22 := rfl
theorem m16_365 : (365 : Nat) % 16 = 13 := rfl
theorem d16_366 : (366 : Nat) / 16 = 22 := rfl
theorem m16_366 : (366 : Nat) % 16 = 14 := rfl
theorem d16_367 : (367 : Nat) / 16 = 22 := rfl
theorem m16_367 : (367 : Nat) % 16 = 15 := rfl
theorem d16_368 : (368 : Nat) / 16 = 23 := rfl
theorem m16_368 : (368 : Nat) % 16 = 0 := rfl
theorem d16_369 : (369 : Nat) / 16 = 23 := rfl
theorem m16_369 : (369 : Nat) % 16 = 1 := rfl
theorem d16_370 : (370 : Nat) / 16 = 23 := rfl
theorem m16_370 : (370 : Nat) % 16 = 2 := rfl
theorem d16_371 : (371 : Nat) / 16 = 23 := rfl
theorem m16_371 : (371 : Nat) % 16 = 3 := rfl
theorem d16_372 : (372 : Nat) / 16 = 23 := rfl
theorem m16_372 : (372 : Nat) % 16 = 4 := rfl
theorem d16_373 : (373 : Nat) / 16 = 23 := rfl
theorem m16_373 : (373 : Nat) % 16 = 5 := rfl
theorem d16_374 : (374 : Nat) / 16 = 23 := rfl
theorem m16_374 : (374 : Nat) % 16 = 6 := rfl
theorem d16_375 : (375 : Nat) / 16 = 23 := rfl
theorem m16_375 : (375 : Nat) % 16 = 7 := rfl
theorem d16_376 : (376 : Nat) / 16 = 23 := rfl
theorem m16_376 : (376 : Nat) % 16 = 8 := rfl
theorem d16_377 : (377 : Nat) / 16 = 23 := rfl
theorem m16_377 : (377 : Nat) % 16 = 9 := rfl
theorem d16_378 : (378 : Nat) / 16 = 23 := rfl
theorem m16_378 : (378 : Nat) % 16 = 10 := rfl
theorem d16_379 : (379 : Nat) / 16 = 23 := rfl
theorem m16_379 : (379 : Nat) % 16 = 11 := rfl
theorem d16_380 : (380 : Nat) / 16 = 23 := rfl
theorem m16_380 : (380 : Nat) % 16 = 12 := rfl
theorem d16_381 : (381 : Nat) / 16 = 23 := rfl
theorem m16_381 : (381 : Nat) % 16 = 13 := rfl
theorem d16_382 : (382 : Nat) / 16 = 23 := rfl
theorem m16_382 : (382 : Nat) % 16 = 14 := rfl
theorem d16_383 : (383 : Nat) / 16 = 23 := rfl
theorem m16_383 : (383 : Nat) % 16 = 15 := rfl
theorem d16_384 : (384 : Nat) / 16 = 24 := rfl
theorem m16_384 : (384 : Nat) % 16 = 0 := rfl
theorem d16_385 : (385 : Nat) / 16 = 24 := rfl
theorem m16_385 : (385 : Nat) % 16 = 1 := rfl
theorem d16_386 : (386 : Nat) / 16 = 24 := rfl
theorem m16_386 : (386 : Nat) % 16 = 2 := rfl
theorem d16_387 : (387 : Nat) / 16 = 24 := rfl
theorem m16_387 : (387 : Nat) % 16 = 3 := rfl
theorem d16_388 : (388 : Nat) / 16 = 24 := rfl
theorem m16_388 : (388 : Nat) % 16 = 4 := rfl
theorem d16_389 : (389 : Nat) / 16 = 24 := rfl
theorem m16_389 : (389 : Nat) % 16 = 5 := rfl
theorem d16_390 : (390 : Nat) / 16 = 24 := rfl
theorem m16_390 : (390 : Nat) % 16 = 6 := rfl
theorem d16_391 : (391 : Nat) / 16 = 24 := rfl
theorem m16_391 : (391 : Nat) % 16 = 7 := rfl
theorem d16_392 : (392 : Nat) / 16 = 24 := rfl
theorem m16_392 : (392 : Nat) % 16 = 8 := rfl
theorem d16_393 : (393 : Nat) / 16 = 24 := rfl
theorem m16_393 : (393 : Nat) % 16 = 9 := rfl
theorem d16_394 : (394 : Nat) / 16 = 24 := rfl
theorem m16_394 : (394 : Nat) % 16 = 10 := rfl
theorem d16_395 : (395 : Nat) / 16 = 24 := rfl
theorem m16_395 : (395 : Nat) % 16 = 11 := rfl
theorem d16_396 : (396 : Nat) / 16 = 24 := rfl
theorem m16_396 : (396 : Nat) % 16 = 12 := rfl
theorem d16_397 : (397 : Nat) / 16 = 24 := rfl
theorem m16_397 : (397 : Nat) % 16 = 13 := rfl
theorem d16_398 : (398 : Nat) / 16 = 24 := rfl
theorem m16_398 : (398 : Nat) % 16 = 14 := rfl
theorem d16_399 : (399 : Nat) / 16 = 24 := rfl
theorem m16_399 : (399 : Nat) % 16 = 15 := rfl
theorem d16_400 : (400 : Nat) / 16 = 25 := rfl
theorem m16_400 : (400 : Nat) % 16 = 0 := rfl
theorem d16_401 : (401 : Nat) / 16 = 25 := rfl
theorem m16_401 : (401 : Nat) % 16 = 1 := rfl
theorem d16_402 : (402 : Nat) / 16 = 25 := rfl
theorem m16_402 : (402 : Nat) % 16 = 2 := rfl
theorem d16_403 : (403 : Nat) / 16 = 25 := rfl
theorem m16_403 : (403 : Nat) % 16 = 3 := rfl
theorem d16_404 : (404 : Nat) / 16 = 25 := rfl
theorem m16_404 : (404 : Nat) % 16 = 4 := rfl
theorem d16_405 : (405 : Nat) / 16 = 25 := rfl
theorem m16_405 : (405 : Nat) % 16 = 5 := rfl
theorem d16_406 : (406 : Nat) / 16 = 25 := rfl
theorem m16_406 : (406 : Nat) % 16 = 6 := rfl
theorem d16_407 : (407 : Nat) / 16 = 25 := rfl
theorem m16_407 : (407 : Nat) % 16 = 7 := rfl
theorem d16_408 : (408 : Nat) / 16 = 25 := rfl
theorem m16_408 : (408 : Nat) % 16 = 8 := rfl
theorem d16_409 : (409 : Nat) / 16 = 25 := rfl
theorem m16_409 : (409 : Nat) % 16 = 9 := rfl
theorem d16_410 : (410 : Nat) / 16 = 25 := rfl
theorem m16_410 : (410 : Nat) % 16 = 10 := rfl
theorem d16_411 : (411 : Nat) / 16 = 25 := rfl
theorem m16_411 : (411 : Nat) % 16 = 11 := rfl
theorem d16_412 : (412 : Nat) / 16 = 25 := rfl
theorem m16_412 : (412 : Nat) % 16 = 12 := rfl
theorem d16_413 : (413 : Nat) / 16 = 25 := rfl
theorem m16_413 : (413 : Nat) % 16 = 13 := rfl
theorem d16_414 : (414 : Nat) / 16 = 25 := rfl
theorem m16_414 : (414 : Nat) % 16 = 14 := rfl
theorem d16_415 : (415 : Nat) / 16 = 25 := rfl
theorem m16_415 : (415 : Nat) % 16 = 15 := rfl
theorem d16_416 : (416 : Nat) / 16 = 26 := rfl
theorem m16_416 : (416 : Nat) % 16 = 0 := rfl
theorem d16_417 : (417 : Nat) / 16 = 26 := rfl
theorem m16_417 : (417 : Nat) % 16 = 1 := rfl
theorem d16_418 : (418 : Nat) / 16 = 26 := rfl
theorem m16_418 : (418 : Nat) % 16 = 2 := rfl
theorem d16_419 : (419 : Nat) / 16 = 26 := rfl
theorem m16_419 : (419 : Nat) % 16 = 3 := rfl
attribute [go_sem] d16_0 m16_0 d16_1 m16_1 d16_2 m16_2 d16_3 m16_3 d16_4 m16_4 d16_5 m16_5 d16_6 m16_6 d16_7 m16_7 d16_8 m16_8 d16_9 m16_9 d16_10 m16_10 d16_11 m16_11 d16_12 m16_12 d16_13 m16_13 d16_14 m16_14 d16_15 m16_15 d16_16 m16_16 d16_17 m16_17 d16_18 m16_18 d16_19 m16_19 d16_20 m16_20 d16_21 m16_21 d16_22 m16_22 d16_23 m16_23 d16_24 m16_24 d16_25 m16_25 d16_26 m16_26 d16_27 m16_27 d16_28 m16_28 d16_29 m16_29 d16_30 m16_30 d16_31 m16_31 d16_32 m16_32 d16_33 m16_33 d16_34 m16_34 d16_35 m16_35 d16_36 m16_36 d16_37 m16_37 d16_38 m16_38 d16_39 m16_39 d16_40 m16_40 d16_41 m16_41 d16_42 m16_42 d16_43 m16_43 d16_44 m16_44 d16_45 m16_45 d16_46 m16_46 d16_47 m16_47 d16_48 m16_48 d16_49 m16_49 d16_50 m16_50 d16_51 m16_51 d16_52 m16_52 d16_53 m16_53 d16_54 m16_54 d16_55 m16_55 d16_56 m16_56 d16_57 m16_57 d16_58 m16_58 d16_59 m16_59
attribute [go_sem] d16_60 m16_60 d16_61 m16_61 d16_62 m16_62 d16_63 m16_63 d16_64 m16_64 d16_65 m16_65 d16_66 m16_66 d16_67 m16_67 d16_68 m16_68 d16_69 m16_69 d16_70 m16_70 d16_71 m16_71 d16_72 m16_72 d16_73 m16_73 d16_74 m16_74 d16_75 m16_75 d16_76 m16_76 d16_77 m16_77 d16_78 m16_78 d16_79 m16_79 d16_80 m16_80 d16_81 m16_81 d16_82 m16_82 d16_83 m16_83 d16_84 m16_84 d16_85 m16_85 d16_86 m16_86 d16_87 m16_87 d16_88 m16_88 d16_89 m16_89 d16_90 m16_90 d16_91 m16_91 d16_92 m16_92 d16_93 m16_93 d16_94 m16_94 d16_95 m16_95 d16_96 m16_96 d16_97 m16_97 d16_98 m16_98 d16_99 m16_99 d16_100 m16_100 d16_101 m16_101 d16_102 m16_102 d16_103 m16_103 d16_104 m16_104 d16_105 m16_105 d16_106 m16_106 d16_107 m16_107 d16_108 m16_108 d16_109 m16_109 d16_110 m16_110 d16_111 m16_111 d16_112 m16_112 d16_113 m16_113 d16_114 m16_114 d16_115 m16_115 d16_116 m16_116 d16_117 m16_117 d16_118 m16_118 d16_119 m16_119
attribute [go_sem] d16_120 m16_120 d16_121 m16_121 d16_122 m16_122 d16_123 m16_123 d16_124 m16_124 d16_125 m16_125 d16_126 m16_126 d16_127 m16_127 d16_128 m16_128 d16_129 m16_129 d16_130 m16_130 d16_131 m16_131 d16_132 m16_132 d16_133 m16_133 d16_134 m16_134 d16_135 m16_135 d16_136 m16_136 d16_137 m16_137 d16_138 m16_138 d16_139 m16_139 d16_140 m16_140 d16_141 m16_141 d16_142 m16_142 d16_143 m16_143 d16_144 m16_144 d16_145 m16_145 d16_146 m16_146 d16_147 m16_147 d16_148 m16_148 d16_149 m16_149 d16_150 m16_150 d16_151 m16_151 d16_152 m16_152 d16_153 m16_153 d16_154 m16_154 d16_155 m16_155 d16_156 m16_156 d16_157 m16_157 d16_158 m16_158 d16_159 m16_159 d16_160 m16_160 d16_161 m16_161 d16_162 m16_162 d16_163 m16_163 d16_164 m16_164 d16_165 m16_165 d16_166 m16_166 d16_167 m16_167 d16_168 m16_168 d16_169 m16_169 d16_170 m16_170 d16_171 m16_171 d16_172 m16_172 d16_173 m16_173 d16_174 m16_174 d16_175 m16_175 d16_176 m16_176 d16_177 m16_177 d16_178 m16_178 d16_179 m16_179
attribute [go_sem] d16_180 m16_180 d16_181 m16_181 d16_182 m16_182 d16_183 m16_183 d16_184 m16_184 d16_185 m16_185 d16_186 m16_186 d16_187 m16_187 d16_188 m16_188 d16_189 m16_189 d16_190 m16_190 d16_191 m16_191 d16_192 m16_192 d16_193 m16_193 d16_194 m16_194 d16_195 m16_195 d16_196 m16_196 d16_197 m16_197 d16_198 m16_198 d16_199 m16_199 d16_200 m16_200 d16_201 m16_201 d16_202 m16_202 d16_203 m16_203 d16_204 m16_204 d16_205 m16_205 d16_206 m16_206 d16_207 m16_207 d16_208 m16_208 d16_209 m16_209 d16_210 m16_210 d16_211 m16_211 d16_212 m16_212 d16_213 m16_213 d16_214 m16_214 d16_215 m16_215 d16_216 m16_216 d16_217 m16_217 d16_218 m16_218 d16_219 m16_219 d16_220 m16_220 d16_221 m16_221 d16_222 m16_222 d16_223 m16_223 d16_224 m16_224 d16_225 m16_225 d16_226 m16_226 d16_227 m16_227 d16_228 m16_228 d16_229 m16_229 d16_230 m16_230 d16_231 m16_231 d16_232 m16_232 d16_233 m16_233 d16_234 m16_234 d16_235 m16_235 d16_236 m16_236 d16_237 m16_237 d16_238 m16_238 d16_239 m16_239
attribute [go_sem] d16_240 m16_240 d16_241 m16_241 d16_242 m16_242 d16_243 m16_243 d16_244 m16_244 d16_245 m16_245 d16_246 m16_246 d16_247 m16_247 d16_248 m16_248 d16_249 m16_249 d16_250 m16_250 d16_251 m16_251 d16_252 m16_252 d16_253 m16_253 d16_254 m16_254 d16_255 m16_255 d16_256 m16_256 d16_257 m16_257 d16_258 m16_258 d16_259 m16_259 d16_260 m16_260 d16_261 m16_261 d16_262 m16_262 d16_263 m16_263 d16_264 m16_264 d16_265 m16_265 d16_266 m16_266 d16_267 m16_267 d16_268 m16_268 d16_269 m16_269 d16_270 m16_270 d16_271 m16_271 d16_272 m16_272 d16_273 m16_273 d16_274 m16_274 d16_275 m16_275 d16_276 m16_276 d16_277 m16_277 d16_278 m16_278 d16_279 m16_279 d16_280 m16_280 d16_281 m16_281 d16_282 m16_282 d16_283 m16_283 d16_284 m16_284 d16_285 m16_285 d16_286 m16_286 d16_287 m16_287 d16_288 m16_288 d16_289 m16_289 d16_290 m16_290 d16_291 m16_291 d16_292 m16_292 d16_293 m16_293 d16_294 m16_294 d16_295 m16_295 d16_296 m16_296 d16_297 m16_297 d16_298 m16_298 d16_299 m16_299
attribute [go_sem] d16_300 m16_300 d16_301 m16_301 d16_302 m16_302 d16_303 m16_303 d16_304 m16_304 d16_305 m16_305 d16_306 m16_306 d16_307 m16_307 d16_308 m16_308 d16_309 m16_309 d16_310 m16_310 d16_311 m16_311 d16_312 m16_312 d16_313 m16_313 d16_314 m16_314 d16_315 m16_315 d16_316 m16_316 d16_317 m16_317 d16_318 m16_318 d16_319 m16_319 d16_320 m16_320 d16_321 m16_321 d16_322 m16_322 d16_323 m16_323 d16_324 m16_324 d16_325 m16_325 d16_326 m16_326 d16_327 m16_327 d16_328 m16_328 d16_329 m16_329 d16_330 m16_330 d16_331 m16_331 d16_332 m16_332 d16_333 m16_333 d16_334 m16_334 d16_335 m16_335 d16_336 m16_336 d16_337 m16_337 d16_338 m16_338 d16_339 m16_339 d16_340 m16_340 d16_341 m16_341 d16_342 m16_342 d16_343 m16_343 d16_344 m16_344 d16_345 m16_345 d16_346 m16_346 d16_347 m16_347 d16_348 m16_348 d16_349 m16_349 d16_350 m16_350 d16_351 m16_351 d16_352 m16_352 d16_353 m16_353 d16_354 m16_354 d16_355 m16_355 d16_356 m16_356 d16_357 m16_357 d16_358 m16_358 d16_359 m16_359
attribute [go_sem] d16_360 m16_360 d16_361 m16_361 d16_362 m16_362 d16_363 m16_363 d16_364 m16_364 d16_365 m16_365 d16_366 m16_366 d16_367 m16_367 d16_368 m16_368 d16_369 m16_369 d16_370 m16_370 d16_371 m16_371 d16_372 m16_372 d16_373 m16_373 d16_374 m16_374 d16_375 m16_375 d16_376 m16_376 d16_377 m16_377 d16_378 m16_378 d16_379 m16_379 d16_380 m16_380 d16_381 m16_381 d16_382 m16_382 d16_383 m16_383 d16_384 m16_384 d16_385 m16_385 d16_386 m16_386 d16_387 m16_387 d16_388 m16_388 d16_389 m16_389 d16_390 m16_390 d16_391 m16_391 d16_392 m16_392 d16_393 m16_393 d16_394 m16_394 d16_395 m16_395 d16_396 m16_396 d16_397 m16_397 d16_398 m16_398 d16_399 m16_399 d16_400 m16_400 d16_401 m16_401 d16_402 m16_402 d16_403 m16_403 d16_404 m16_404 d16_405 m16_405 d16_406 m16_406 d16_407 m16_407 d16_408 m16_408 d16_409 m16_409 d16_410 m16_410 d16_411 m16_411 d16_412 m16_412 d16_413 m16_413 d16_414 m16_414 d16_415 m16_415 d16_416 m16_416 d16_417 m16_417 d16_418 m16_418 d16_419 m16_419
end
section
open Go.ChangeShapes Go.WideShapes Go.ChangeAt Go.RowKit
set_option linter.unusedVariables false


def intC (n : Int) : List Sc := [.int .i64 n]
def byteC (n : UInt8) : List Sc := [.int .u8 n.toNat]
/-- Elements flat: what a row of them is, whatever lies where. -/
def FlatEnc {α : Type} (enc : α → List Sc) : Prop := ∀ x, flatC (enc x) = true
theorem map_get {α : Type} {enc : α → List Sc} {l : List α} {k : Nat} (h : k < l.length) : (l.map enc)[k]? = some (enc l[k]) := by simp [h]
/-- A heap of objects that may only be read. -/
theorem hsim_ro {β : Be} {h : Hp} {w : World} (hl : β.length = h.length) (hob : ∀ (o : Nat) (ob : AObj) (p : Option Pl), h[o]? = some (some ob) → β[o]? = some p → ob.own = false ∧ ObR β w p ob ∧ FlatL ob.cs) : HSim β h w := by
  have bp : ∀ {o : Nat} {x : Option AObj}, h[o]? = some x → ∃ p, β[o]? = some p := fun {o x} hx => ⟨β[o]'(by rw [hl]; exact (List.getElem?_eq_some_iff.1 hx).1), List.getElem?_eq_getElem _⟩
  refine ⟨hl, fun o ob ho => ?_, fun o ob ho _ => ?_, fun o o' ob ob' p p' ho _ hown _ _ _ => ?_⟩
  · obtain ⟨p, hp⟩ := bp ho
    exact ⟨p, hp, (hob o ob p ho hp).2.1⟩
  · obtain ⟨p, hp⟩ := bp ho
    exact (hob o ob p ho hp).2.2
  · obtain ⟨q, hq⟩ := bp ho
    rw [(hob o ob q ho hq).1] at hown
    cases hown
/-- Objects one by one. -/
def RoL (β : Be) (w : World) : Be → Hp → Prop
  | [], [] => True
  | p :: l, some ob :: h => (ob.own = false ∧ ObR β w p ob ∧ FlatL ob.cs) ∧ RoL β w l h
  | _, _ => False
theorem roL_get {β : Be} {w : World} : ∀ {l : Be} {h : Hp}, RoL β w l h → l.length = h.length ∧ ∀ (o : Nat) (ob : AObj) (p : Option Pl), h[o]? = some (some ob) → l[o]? = some p → ob.own = false ∧ ObR β w p ob ∧ FlatL ob.cs
  | [], [], _ => ⟨rfl, fun o ob p h => by simp at h⟩
  | q :: l, some x :: h, hr => by
    obtain ⟨h1, h2⟩ := roL_get hr.2
    refine ⟨by simp [h1], fun o ob p ho hp => ?_⟩
    cases o with
    | zero =>
      simp only [List.getElem?_cons_zero, Option.some.injEq] at ho hp
      subst ho; subst hp
      exact hr.1
    | succ o => exact h2 o ob p (by simpa using ho) (by simpa using hp)
  | [], _ :: _, h => h.elim
  | _ :: _, [], h => h.elim
  | _ :: _, none :: _, h => h.elim
theorem hsim_roL {β : Be} {w : World} {h : Hp} (hr : RoL β w β h) : HSim β h w := hsim_ro (roL_get hr).1 (roL_get hr).2
structure RoadD where
  own : Int
  far : Int
  port : Int
deriving DecidableEq, Inhabited
def RoadD.cs (x : RoadD) : List Sc := [.int .i64 x.own, .int .i64 x.far, .int .i64 x.port]
def RoadD.wf (x : RoadD) : Prop := I64 x.own ∧ I64 x.far ∧ I64 x.port
def RoadD.ls : List L0 := [.int, .int, .int]
theorem RoadD.flat : FlatEnc RoadD.cs := fun _ => rfl
structure AddrD where
  id : Int
  addr : Int
  spare : Bool
  told : Bool
deriving DecidableEq, Inhabited
def AddrD.cs (x : AddrD) : List Sc := [.int .i64 x.id, .int .i64 x.addr, .bo x.spare, .bo x.told]
def AddrD.wf (x : AddrD) : Prop := I64 x.id ∧ I64 x.addr
def AddrD.ls : List L0 := [.int, .int, .bool, .bool]
theorem AddrD.flat : FlatEnc AddrD.cs := fun _ => rfl
structure PolicyD where
  kind : Int
  many : Int
deriving DecidableEq, Inhabited
def PolicyD.cs (x : PolicyD) : List Sc := [.int .i64 x.kind, .int .i64 x.many]
def PolicyD.wf (x : PolicyD) : Prop := I64 x.kind ∧ I64 x.many
def PolicyD.ls : List L0 := [.int, .int]
theorem PolicyD.flat : FlatEnc PolicyD.cs := fun _ => rfl
structure BucketD where
  rate : Int
  burst : Int
  cur : Int
deriving DecidableEq, Inhabited
def BucketD.cs (x : BucketD) : List Sc := [.int .i64 x.rate, .int .i64 x.burst, .int .i64 x.cur]
def BucketD.wf (x : BucketD) : Prop := I64 x.rate ∧ I64 x.burst ∧ I64 x.cur
def BucketD.ls : List L0 := [.int, .int, .int]
theorem BucketD.flat : FlatEnc BucketD.cs := fun _ => rfl
structure HalfD where
  road : RoadD
  theirs : Int
  mine : Int
  give : Int
  take : Int
  till : Int
deriving DecidableEq, Inhabited
def HalfD.cs (x : HalfD) : List Sc := [.int .i64 x.road.own, .int .i64 x.road.far, .int .i64 x.road.port, .int .i64 x.theirs, .int .i64 x.mine, .int .i64 x.give, .int .i64 x.take, .int .i64 x.till]
def HalfD.wf (x : HalfD) : Prop := I64 x.road.own ∧ I64 x.road.far ∧ I64 x.road.port ∧ I64 x.theirs ∧ I64 x.mine ∧ I64 x.give ∧ I64 x.take ∧ I64 x.till
def HalfD.ls : List L0 := [.int, .int, .int, .int, .int, .int, .int, .int]
theorem HalfD.flat : FlatEnc HalfD.cs := fun _ => rfl
structure TagD where
  kind : Int
  one : Int
  two : Int
  a : Int
  b : Int
deriving DecidableEq, Inhabited
def TagD.cs (x : TagD) : List Sc := [.int .i64 x.kind, .int .i64 x.one, .int .i64 x.two, .int .i64 x.a, .int .i64 x.b]
def TagD.wf (x : TagD) : Prop := I64 x.kind ∧ I64 x.one ∧ I64 x.two ∧ I64 x.a ∧ I64 x.b
def TagD.ls : List L0 := [.int, .int, .int, .int, .int]
theorem TagD.flat : FlatEnc TagD.cs := fun _ => rfl
structure LetterD where
  kind : Int
  frm : Int
  to : Int
  port : Int
  key : Int
  token : Int
  nonce : Int
  give : Int
  sgn : Int
  tag : TagD
  id : Int
  addr : Int
  spare : Bool
  pos : Int
  text : List UInt8
deriving DecidableEq, Inhabited
def LetterD.cs (x : LetterD) : List Sc := [.int .i64 x.kind, .int .i64 x.frm, .int .i64 x.to, .int .i64 x.port, .int .i64 x.key, .int .i64 x.token, .int .i64 x.nonce, .int .i64 x.give, .int .i64 x.sgn, .int .i64 x.tag.kind, .int .i64 x.tag.one, .int .i64 x.tag.two, .int .i64 x.tag.a, .int .i64 x.tag.b, .int .i64 x.id, .int .i64 x.addr, .bo x.spare, .int .i64 x.pos, .st x.text]
def LetterD.wf (x : LetterD) : Prop := I64 x.kind ∧ I64 x.frm ∧ I64 x.to ∧ I64 x.port ∧ I64 x.key ∧ I64 x.token ∧ I64 x.nonce ∧ I64 x.give ∧ I64 x.sgn ∧ I64 x.tag.kind ∧ I64 x.tag.one ∧ I64 x.tag.two ∧ I64 x.tag.a ∧ I64 x.tag.b ∧ I64 x.id ∧ I64 x.addr ∧ I64 x.pos ∧ x.text.length ≤ maxLen
def LetterD.ls : List L0 := [.int, .int, .int, .int, .int, .int, .int, .int, .int, .int, .int, .int, .int, .int, .int, .int, .bool, .int, .str]
theorem LetterD.flat : FlatEnc LetterD.cs := fun _ => rfl
structure SubD where
  road : RoadD
  state : Int
  spare : Bool
  mine : Int
  theirs : Int
  give : Int
  take : Int
  tries : Int
deriving DecidableEq, Inhabited
def SubD.cs (x : SubD) : List Sc := [.int .i64 x.road.own, .int .i64 x.road.far, .int .i64 x.road.port, .int .i64 x.state, .bo x.spare, .int .i64 x.mine, .int .i64 x.theirs, .int .i64 x.give, .int .i64 x.take, .int .i64 x.tries]
def SubD.wf (x : SubD) : Prop := I64 x.road.own ∧ I64 x.road.far ∧ I64 x.road.port ∧ I64 x.state ∧ I64 x.mine ∧ I64 x.theirs ∧ I64 x.give ∧ I64 x.take ∧ I64 x.tries
def SubD.ls : List L0 := [.int, .int, .int, .int, .bool, .int, .int, .int, .int, .int]
theorem SubD.flat : FlatEnc SubD.cs := fun _ => rfl
structure PieceD where
  pos : Int
  text : List UInt8
deriving DecidableEq, Inhabited
def PieceD.cs (x : PieceD) : List Sc := [.int .i64 x.pos, .st x.text]
def PieceD.wf (x : PieceD) : Prop := I64 x.pos ∧ x.text.length ≤ maxLen
def PieceD.ls : List L0 := [.int, .str]
theorem PieceD.flat : FlatEnc PieceD.cs := fun _ => rfl
structure OutD where
  text : List UInt8
  base : Int
  sent : Int
  room : Int
deriving DecidableEq, Inhabited
def OutD.cs (x : OutD) : List Sc := [.st x.text, .int .i64 x.base, .int .i64 x.sent, .int .i64 x.room]
def OutD.wf (x : OutD) : Prop := x.text.length ≤ maxLen ∧ I64 x.base ∧ I64 x.sent ∧ I64 x.room
def OutD.ls : List L0 := [.str, .int, .int, .int]
theorem OutD.flat : FlatEnc OutD.cs := fun _ => rfl
structure ActD where
  kind : Int
  side : Int
  pos : Int
  many : Int
  text : List UInt8
  addr : AddrD
  letter : LetterD
deriving DecidableEq, Inhabited
def ActD.cs (x : ActD) : List Sc := [.int .i64 x.kind, .int .i64 x.side, .int .i64 x.pos, .int .i64 x.many, .st x.text, .int .i64 x.addr.id, .int .i64 x.addr.addr, .bo x.addr.spare, .bo x.addr.told, .int .i64 x.letter.kind, .int .i64 x.letter.frm, .int .i64 x.letter.to, .int .i64 x.letter.port, .int .i64 x.letter.key, .int .i64 x.letter.token, .int .i64 x.letter.nonce, .int .i64 x.letter.give, .int .i64 x.letter.sgn, .int .i64 x.letter.tag.kind, .int .i64 x.letter.tag.one, .int .i64 x.letter.tag.two, .int .i64 x.letter.tag.a, .int .i64 x.letter.tag.b, .int .i64 x.letter.id, .int .i64 x.letter.addr, .bo x.letter.spare, .int .i64 x.letter.pos, .st x.letter.text]
def ActD.wf (x : ActD) : Prop := I64 x.kind ∧ I64 x.side ∧ I64 x.pos ∧ I64 x.many ∧ x.text.length ≤ maxLen ∧ I64 x.addr.id ∧ I64 x.addr.addr ∧ I64 x.letter.kind ∧ I64 x.letter.frm ∧ I64 x.letter.to ∧ I64 x.letter.port ∧ I64 x.letter.key ∧ I64 x.letter.token ∧ I64 x.letter.nonce ∧ I64 x.letter.give ∧ I64 x.letter.sgn ∧ I64 x.letter.tag.kind ∧ I64 x.letter.tag.one ∧ I64 x.letter.tag.two ∧ I64 x.letter.tag.a ∧ I64 x.letter.tag.b ∧ I64 x.letter.id ∧ I64 x.letter.addr ∧ I64 x.letter.pos ∧ x.letter.text.length ≤ maxLen
def ActD.ls : List L0 := [.int, .int, .int, .int, .str, .int, .int, .bool, .bool, .int, .int, .int, .int, .int, .int, .int, .int, .int, .int, .int, .int, .int, .int, .int, .int, .bool, .int, .str]
theorem ActD.flat : FlatEnc ActD.cs := fun _ => rfl
attribute [go_sem] intC RoadD.cs AddrD.cs PolicyD.cs BucketD.cs HalfD.cs TagD.cs LetterD.cs SubD.cs PieceD.cs OutD.cs ActD.cs
end
section
theorem tl_2 : tload Tryd.prog 2 = some none := by kernel_rfl
theorem ts_2 : tst Tryd.prog 2 = some 1 := by kernel_rfl
theorem tz_2 : tz Tryd.prog 2 = some [.int .i64 0] := by kernel_rfl
theorem tl_3 : tload Tryd.prog 3 = some none := by kernel_rfl
theorem ts_3 : tst Tryd.prog 3 = some 1 := by kernel_rfl
theorem tz_3 : tz Tryd.prog 3 = some [.int .i64 0] := by kernel_rfl
theorem tl_4 : tload Tryd.prog 4 = some none := by kernel_rfl
theorem ts_4 : tst Tryd.prog 4 = some 1 := by kernel_rfl
theorem tz_4 : tz Tryd.prog 4 = some [.bo false] := by kernel_rfl
theorem tbo_4 : tbool Tryd.prog 4 = true := by kernel_rfl
theorem tl_5 : tload Tryd.prog 5 = some none := by kernel_rfl
theorem ts_5 : tst Tryd.prog 5 = some 1 := by kernel_rfl
theorem tz_5 : tz Tryd.prog 5 = some [.int .u8 0] := by kernel_rfl
theorem tl_9 : tload Tryd.prog 9 = some none := by kernel_rfl
theorem ts_9 : tst Tryd.prog 9 = some 1 := by kernel_rfl
theorem tz_9 : tz Tryd.prog 9 = some [.st []] := by kernel_rfl
theorem tstr_9 : tstr Tryd.prog 9 = true := by kernel_rfl
theorem tl_12 : tload Tryd.prog 12 = some none := by kernel_rfl
theorem ts_12 : tst Tryd.prog 12 = some 1 := by kernel_rfl
theorem tz_12 : tz Tryd.prog 12 = some [.int .u64 0] := by kernel_rfl
theorem tl_21 : tload Tryd.prog 21 = some none := by kernel_rfl
theorem ts_21 : tst Tryd.prog 21 = some 1 := by kernel_rfl
theorem tz_21 : tz Tryd.prog 21 = some [.int .i32 0] := by kernel_rfl
theorem tl_22 : tload Tryd.prog 22 = some (some 4) := by kernel_rfl
theorem ts_22 : tst Tryd.prog 22 = some 4 := by kernel_rfl
theorem tz_22 : tz Tryd.prog 22 = some [.int .i64 0, .int .i64 0, .bo false, .bo false] := by kernel_rfl
theorem tsz_22 : tsz Tryd.prog 22 = 4 := by kernel_rfl
theorem tag_22 : tagg Tryd.prog 22 = true := by kernel_rfl
theorem tb_22 : tbuild Tryd.prog 22 = some [.int .i64 0, .int .i64 0, .bo false, .bo false] := by kernel_rfl
theorem tf_22_0 : tfld Tryd.prog 22 0 = some (0, 1) := by kernel_rfl
theorem tf_22_1 : tfld Tryd.prog 22 1 = some (1, 1) := by kernel_rfl
theorem tf_22_2 : tfld Tryd.prog 22 2 = some (2, 1) := by kernel_rfl
theorem tf_22_3 : tfld Tryd.prog 22 3 = some (3, 1) := by kernel_rfl
theorem tl_23 : tload Tryd.prog 23 = some (some 4) := by kernel_rfl
theorem ts_23 : tst Tryd.prog 23 = some 4 := by kernel_rfl
theorem tz_23 : tz Tryd.prog 23 = some [.int .i64 0, .int .i64 0, .bo false, .bo false] := by kernel_rfl
theorem tsz_23 : tsz Tryd.prog 23 = 4 := by kernel_rfl
theorem tag_23 : tagg Tryd.prog 23 = true := by kernel_rfl
theorem tb_23 : tbuild Tryd.prog 23 = some [.int .i64 0, .int .i64 0, .bo false, .bo false] := by kernel_rfl
theorem tf_23_0 : tfld Tryd.prog 23 0 = some (0, 1) := by kernel_rfl
theorem tf_23_1 : tfld Tryd.prog 23 1 = some (1, 1) := by kernel_rfl
theorem tf_23_2 : tfld Tryd.prog 23 2 = some (2, 1) := by kernel_rfl
theorem tf_23_3 : tfld Tryd.prog 23 3 = some (3, 1) := by kernel_rfl
theorem tl_24 : tload Tryd.prog 24 = some (some 5) := by kernel_rfl
theorem ts_24 : tst Tryd.prog 24 = some 5 := by kernel_rfl
theorem tz_24 : tz Tryd.prog 24 = some [.int .i64 0, .int .i64 0, .int .i64 0, .int .i64 0, .int .i64 0] := by kernel_rfl
theorem tsz_24 : tsz Tryd.prog 24 = 5 := by kernel_rfl
theorem tag_24 : tagg Tryd.prog 24 = true := by kernel_rfl
theorem tb_24 : tbuild Tryd.prog 24 = some [.int .i64 0, .int .i64 0, .int .i64 0, .int .i64 0, .int .i64 0] := by kernel_rfl
theorem tf_24_0 : tfld Tryd.prog 24 0 = some (0, 1) := by kernel_rfl
theorem tf_24_1 : tfld Tryd.prog 24 1 = some (1, 1) := by kernel_rfl
theorem tf_24_2 : tfld Tryd.prog 24 2 = some (2, 1) := by kernel_rfl
theorem tf_24_3 : tfld Tryd.prog 24 3 = some (3, 1) := by kernel_rfl
theorem tf_24_4 : tfld Tryd.prog 24 4 = some (4, 1) := by kernel_rfl
theorem tl_25 : tload Tryd.prog 25 = some (some 5) := by kernel_rfl
theorem ts_25 : tst Tryd.prog 25 = some 5 := by kernel_rfl
theorem tz_25 : tz Tryd.prog 25 = some [.int .i64 0, .int .i64 0, .int .i64 0, .int .i64 0, .int .i64 0] := by kernel_rfl
theorem tsz_25 : tsz Tryd.prog 25 = 5 := by kernel_rfl
theorem tag_25 : tagg Tryd.prog 25 = true := by kernel_rfl
theorem tb_25 : tbuild Tryd.prog 25 = some [.int .i64 0, .int .i64 0, .int .i64 0, .int .i64 0, .int .i64 0] := by kernel_rfl
theorem tf_25_0 : tfld Tryd.prog 25 0 = some (0, 1) := by kernel_rfl
theorem tf_25_1 : tfld Tryd.prog 25 1 = some (1, 1) := by kernel_rfl
theorem tf_25_2 : tfld Tryd.prog 25 2 = some (2, 1) := by kernel_rfl
theorem tf_25_3 : tfld Tryd.prog 25 3 = some (3, 1) := by kernel_rfl
theorem tf_25_4 : tfld Tryd.prog 25 4 = some (4, 1) := by kernel_rfl
theorem tl_26 : tload Tryd.prog 26 = some (some 19) := by kernel_rfl
theorem ts_26 : tst Tryd.prog 26 = some 19 := by kernel_rfl
theorem tz_26 : tz Tryd.prog 26 = some [.int .i64 0, .int .i64 0, .int .i64 0, .int .i64 0, .int .i64 0, .int .i64 0, .int .i64 0, .int .i64 0, .int .i64 0, .int .i64 0, .int .i64 0, .int .i64 0, .int .i64 0, .int .i64 0, .int .i64 0, .int .i64 0, .bo false, .int .i64 0, .st []] := by kernel_rfl
theorem tsz_26 : tsz Tryd.prog 26 = 19 := by kernel_rfl
theorem tag_26 : tagg Tryd.prog 26 = true := by kernel_rfl
theorem tb_26 : tbuild Tryd.prog 26 = some [.int .i64 0, .int .i64 0, .int .i64 0, .int .i64 0, .int .i64 0, .int .i64 0, .int .i64 0, .int .i64 0, .int .i64 0, .int .i64 0, .int .i64 0, .int .i64 0, .int .i64 0, .int .i64 0, .int .i64 0, .int .i64 0, .bo false, .int .i64 0, .st []] := by kernel_rfl
theorem tf_26_0 : tfld Tryd.prog 26 0 = some (0, 1) := by kernel_rfl
theorem tf_26_1 : tfld Tryd.prog 26 1 = some (1, 1) := by kernel_rfl
theorem tf_26_2 : tfld Tryd.prog 26 2 = some (2, 1) := by kernel_rfl
theorem tf_26_3 : tfld Tryd.prog 26 3 = some (3, 1) := by kernel_rfl
theorem tf_26_4 : tfld Tryd.prog 26 4 = some (4, 1) := by kernel_rfl
theorem tf_26_5 : tfld Tryd.prog 26 5 = some (5, 1) := by kernel_rfl
theorem tf_26_6 : tfld Tryd.prog 26 6 = some (6, 1) := by kernel_rfl
theorem tf_26_7 : tfld Tryd.prog 26 7 = some (7, 1) := by kernel_rfl
theorem tf_26_8 : tfld Tryd.prog 26 8 = some (8, 1) := by kernel_rfl
theorem tf_26_9 : tfld Tryd.prog 26 9 = some (9, 5) := by kernel_rfl
theorem tf_26_10 : tfld Tryd.prog 26 10 = some (14, 1) := by kernel_rfl
theorem tf_26_11 : tfld Tryd.prog 26 11 = some (15, 1) := by kernel_rfl
theorem tf_26_12 : tfld Tryd.prog 26 12 = some (16, 1) := by kernel_rfl
theorem tf_26_13 : tfld Tryd.prog 26 13 = some (17, 1) := by kernel_rfl
theorem tf_26_14 : tfld Tryd.prog 26 14 = some (18, 1) := by kernel_rfl
theorem tl_27 : tload Tryd.prog 27 = some (some 19) := by kernel_rfl
theorem ts_27 : tst Tryd.prog 27 = some 19 := by kernel_rfl
theorem tz_27 : tz Tryd.prog 27 = some [.int .i64 0, .int .i64 0, .int .i64 0, .int .i64 0, .int .i64 0, .int .i64 0, .int .i64 0, .int .i64 0, .int .i64 0, .int .i64 0, .int .i64 0, .int .i64 0, .int .i64 0, .int .i64 0, .int .i64 0, .int .i64 0, .bo false, .int .i64 0, .st []] := by kernel_rfl
theorem tsz_27 : tsz Tryd.prog 27 = 19 := by kernel_rfl
theorem tag_27 : tagg Tryd.prog 27 = true := by kernel_rfl
theorem tb_27 : tbuild Tryd.prog 27 = some [.int .i64 0, .int .i64 0, .int .i64 0, .int .i64 0, .int .i64 0, .int .i64 0, .int .i64 0, .int .i64 0, .int .i64 0, .int .i64 0, .int .i64 0, .int .i64 0, .int .i64 0, .int .i64 0, .int .i64 0, .int .i64 0, .bo false, .int .i64 0, .st []] := by kernel_rfl
theorem tf_27_0 : tfld Tryd.prog 27 0 = some (0, 1) := by kernel_rfl
theorem tf_27_1 : tfld Tryd.prog 27 1 = some (1, 1) := by kernel_rfl
theorem tf_27_2 : tfld Tryd.prog 27 2 = some (2, 1) := by kernel_rfl
theorem tf_27_3 : tfld Tryd.prog 27 3 = some (3, 1) := by kernel_rfl
theorem tf_27_4 : tfld Tryd.prog 27 4 = some (4, 1) := by kernel_rfl
theorem tf_27_5 : tfld Tryd.prog 27 5 = some (5, 1) := by kernel_rfl
theorem tf_27_6 : tfld Tryd.prog 27 6 = some (6, 1) := by kernel_rfl
theorem tf_27_7 : tfld Tryd.prog 27 7 = some (7, 1) := by kernel_rfl
theorem tf_27_8 : tfld Tryd.prog 27 8 = some (8, 1) := by kernel_rfl
theorem tf_27_9 : tfld Tryd.prog 27 9 = some (9, 5) := by kernel_rfl
theorem tf_27_10 : tfld Tryd.prog 27 10 = some (14, 1) := by kernel_rfl
theorem tf_27_11 : tfld Tryd.prog 27 11 = some (15, 1) := by kernel_rfl
theorem tf_27_12 : tfld Tryd.prog 27 12 = some (16, 1) := by kernel_rfl
theorem tf_27_13 : tfld Tryd.prog 27 13 = some (17, 1) := by kernel_rfl
theorem tf_27_14 : tfld Tryd.prog 27 14 = some (18, 1) := by kernel_rfl
theorem tl_28 : tload Tryd.prog 28 = some (some 28) := by kernel_rfl
theorem ts_28 : tst Tryd.prog 28 = some 28 := by kernel_rfl
theorem tz_28 : tz Tryd.prog 28 = some [.int .i64 0, .int .i64 0, .int .i64 0, .int .i64 0, .st [], .int .i64 0, .int .i64 0, .bo false, .bo false, .int .i64 0, .int .i64 0, .int .i64 0, .int .i64 0, .int .i64 0, .int .i64 0, .int .i64 0, .int .i64 0, .int .i64 0, .int .i64 0, .int .i64 0, .int .i64 0, .int .i64 0, .int .i64 0, .int .i64 0, .int .i64 0, .bo false, .int .i64 0, .st []] := by kernel_rfl
theorem tsz_28 : tsz Tryd.prog 28 = 28 := by kernel_rfl
theorem tag_28 : tagg Tryd.prog 28 = true := by kernel_rfl
theorem tb_28 : tbuild Tryd.prog 28 = some [.int .i64 0, .int .i64 0, .int .i64 0, .int .i64 0, .st [], .int .i64 0, .int .i64 0, .bo false, .bo false, .int .i64 0, .int .i64 0, .int .i64 0, .int .i64 0, .int .i64 0, .int .i64 0, .int .i64 0, .int .i64 0, .int .i64 0, .int .i64 0, .int .i64 0, .int .i64 0, .int .i64 0, .int .i64 0, .int .i64 0, .int .i64 0, .bo false, .int .i64 0, .st []] := by kernel_rfl
theorem tf_28_0 : tfld Tryd.prog 28 0 = some (0, 1) := by kernel_rfl
theorem tf_28_1 : tfld Tryd.prog 28 1 = some (1, 1) := by kernel_rfl
theorem tf_28_2 : tfld Tryd.prog 28 2 = some (2, 1) := by kernel_rfl
theorem tf_28_3 : tfld Tryd.prog 28 3 = some (3, 1) := by kernel_rfl
theorem tf_28_4 : tfld Tryd.prog 28 4 = some (4, 1) := by kernel_rfl
theorem tf_28_5 : tfld Tryd.prog 28 5 = some (5, 4) := by kernel_rfl
theorem tf_28_6 : tfld Tryd.prog 28 6 = some (9, 19) := by kernel_rfl
theorem tl_29 : tload Tryd.prog 29 = some (some 28) := by kernel_rfl
theorem ts_29 : tst Tryd.prog 29 = some 28 := by kernel_rfl
theorem tz_29 : tz Tryd.prog 29 = some [.int .i64 0, .int .i64 0, .int .i64 0, .int .i64 0, .st [], .int .i64 0, .int .i64 0, .bo false, .bo false, .int .i64 0, .int .i64 0, .int .i64 0, .int .i64 0, .int .i64 0, .int .i64 0, .int .i64 0, .int .i64 0, .int .i64 0, .int .i64 0, .int .i64 0, .int .i64 0, .int .i64 0, .int .i64 0, .int .i64 0, .int .i64 0, .bo false, .int .i64 0, .st []] := by kernel_rfl
theorem tsz_29 : tsz Tryd.prog 29 = 28 := by kernel_rfl
theorem tag_29 : tagg Tryd.prog 29 = true := by kernel_rfl
theorem tb_29 : tbuild Tryd.prog 29 = some [.int .i64 0, .int .i64 0, .int .i64 0, .int .i64 0, .st [], .int .i64 0, .int .i64 0, .bo false, .bo false, .int .i64 0, .int .i64 0, .int .i64 0, .int .i64 0, .int .i64 0, .int .i64 0, .int .i64 0, .int .i64 0, .int .i64 0, .int .i64 0, .int .i64 0, .int .i64 0, .int .i64 0, .int .i64 0, .int .i64 0, .int .i64 0, .bo false, .int .i64 0, .st []] := by kernel_rfl
theorem tf_29_0 : tfld Tryd.prog 29 0 = some (0, 1) := by kernel_rfl
theorem tf_29_1 : tfld Tryd.prog 29 1 = some (1, 1) := by kernel_rfl
theorem tf_29_2 : tfld Tryd.prog 29 2 = some (2, 1) := by kernel_rfl
theorem tf_29_3 : tfld Tryd.prog 29 3 = some (3, 1) := by kernel_rfl
theorem tf_29_4 : tfld Tryd.prog 29 4 = some (4, 1) := by kernel_rfl
theorem tf_29_5 : tfld Tryd.prog 29 5 = some (5, 4) := by kernel_rfl
theorem tf_29_6 : tfld Tryd.prog 29 6 = some (9, 19) := by kernel_rfl
theorem tl_32 : tload Tryd.prog 32 = some (some 4) := by kernel_rfl
theorem ts_32 : tst Tryd.prog 32 = some 4 := by kernel_rfl
theorem tz_32 : tz Tryd.prog 32 = some [.int .i64 0, .int .i64 0, .bo false, .bo false] := by kernel_rfl
theorem tsz_32 : tsz Tryd.prog 32 = 4 := by kernel_rfl
theorem tag_32 : tagg Tryd.prog 32 = true := by kernel_rfl
theorem tb_32 : tbuild Tryd.prog 32 = some [.int .i64 0, .int .i64 0, .bo false, .bo false] := by kernel_rfl
theorem tf_32_0 : tfld Tryd.prog 32 0 = some (0, 1) := by kernel_rfl
theorem tf_32_1 : tfld Tryd.prog 32 1 = some (1, 1) := by kernel_rfl
theorem tf_32_2 : tfld Tryd.prog 32 2 = some (2, 1) := by kernel_rfl
theorem tf_32_3 : tfld Tryd.prog 32 3 = some (3, 1) := by kernel_rfl
theorem tl_33 : tload Tryd.prog 33 = some (some 5) := by kernel_rfl
theorem ts_33 : tst Tryd.prog 33 = some 5 := by kernel_rfl
theorem tz_33 : tz Tryd.prog 33 = some [.int .i64 0, .int .i64 0, .int .i64 0, .int .i64 0, .int .i64 0] := by kernel_rfl
theorem tsz_33 : tsz Tryd.prog 33 = 5 := by kernel_rfl
theorem tag_33 : tagg Tryd.prog 33 = true := by kernel_rfl
theorem tb_33 : tbuild Tryd.prog 33 = some [.int .i64 0, .int .i64 0, .int .i64 0, .int .i64 0, .int .i64 0] := by kernel_rfl
theorem tf_33_0 : tfld Tryd.prog 33 0 = some (0, 1) := by kernel_rfl
theorem tf_33_1 : tfld Tryd.prog 33 1 = some (1, 1) := by kernel_rfl
theorem tf_33_2 : tfld Tryd.prog 33 2 = some (2, 1) := by kernel_rfl
theorem tf_33_3 : tfld Tryd.prog 33 3 = some (3, 1) := by kernel_rfl
theorem tf_33_4 : tfld Tryd.prog 33 4 = some (4, 1) := by kernel_rfl
theorem tl_34 : tload Tryd.prog 34 = some (some 19) := by kernel_rfl
theorem ts_34 : tst Tryd.prog 34 = some 19 := by kernel_rfl
theorem tz_34 : tz Tryd.prog 34 = some [.int .i64 0, .int .i64 0, .int .i64 0, .int .i64 0, .int .i64 0, .int .i64 0, .int .i64 0, .int .i64 0, .int .i64 0, .int .i64 0, .int .i64 0, .int .i64 0, .int .i64 0, .int .i64 0, .int .i64 0, .int .i64 0, .bo false, .int .i64 0, .st []] := by kernel_rfl
theorem tsz_34 : tsz Tryd.prog 34 = 19 := by kernel_rfl
theorem tag_34 : tagg Tryd.prog 34 = true := by kernel_rfl
theorem tb_34 : tbuild Tryd.prog 34 = some [.int .i64 0, .int .i64 0, .int .i64 0, .int .i64 0, .int .i64 0, .int .i64 0, .int .i64 0, .int .i64 0, .int .i64 0, .int .i64 0, .int .i64 0, .int .i64 0, .int .i64 0, .int .i64 0, .int .i64 0, .int .i64 0, .bo false, .int .i64 0, .st []] := by kernel_rfl
theorem tf_34_0 : tfld Tryd.prog 34 0 = some (0, 1) := by kernel_rfl
theorem tf_34_1 : tfld Tryd.prog 34 1 = some (1, 1) := by kernel_rfl
theorem tf_34_2 : tfld Tryd.prog 34 2 = some (2, 1) := by kernel_rfl
theorem tf_34_3 : tfld Tryd.prog 34 3 = some (3, 1) := by kernel_rfl
theorem tf_34_4 : tfld Tryd.prog 34 4 = some (4, 1) := by kernel_rfl
theorem tf_34_5 : tfld Tryd.prog 34 5 = some (5, 1) := by kernel_rfl
theorem tf_34_6 : tfld Tryd.prog 34 6 = some (6, 1) := by kernel_rfl
theorem tf_34_7 : tfld Tryd.prog 34 7 = some (7, 1) := by kernel_rfl
theorem tf_34_8 : tfld Tryd.prog 34 8 = some (8, 1) := by kernel_rfl
theorem tf_34_9 : tfld Tryd.prog 34 9 = some (9, 5) := by kernel_rfl
theorem tf_34_10 : tfld Tryd.prog 34 10 = some (14, 1) := by kernel_rfl
theorem tf_34_11 : tfld Tryd.prog 34 11 = some (15, 1) := by kernel_rfl
theorem tf_34_12 : tfld Tryd.prog 34 12 = some (16, 1) := by kernel_rfl
theorem tf_34_13 : tfld Tryd.prog 34 13 = some (17, 1) := by kernel_rfl
theorem tf_34_14 : tfld Tryd.prog 34 14 = some (18, 1) := by kernel_rfl
theorem tl_35 : tload Tryd.prog 35 = some (some 19) := by kernel_rfl
theorem ts_35 : tst Tryd.prog 35 = some 19 := by kernel_rfl
theorem tz_35 : tz Tryd.prog 35 = some [.int .i64 0, .int .i64 0, .int .i64 0, .int .i64 0, .int .i64 0, .int .i64 0, .int .i64 0, .int .i64 0, .int .i64 0, .int .i64 0, .int .i64 0, .int .i64 0, .int .i64 0, .int .i64 0, .int .i64 0, .int .i64 0, .bo false, .int .i64 0, .st []] := by kernel_rfl
theorem tsz_35 : tsz Tryd.prog 35 = 19 := by kernel_rfl
theorem tag_35 : tagg Tryd.prog 35 = true := by kernel_rfl
theorem tb_35 : tbuild Tryd.prog 35 = some [.int .i64 0, .int .i64 0, .int .i64 0, .int .i64 0, .int .i64 0, .int .i64 0, .int .i64 0, .int .i64 0, .int .i64 0, .int .i64 0, .int .i64 0, .int .i64 0, .int .i64 0, .int .i64 0, .int .i64 0, .int .i64 0, .bo false, .int .i64 0, .st []] := by kernel_rfl
theorem tf_35_0 : tfld Tryd.prog 35 0 = some (0, 1) := by kernel_rfl
theorem tf_35_1 : tfld Tryd.prog 35 1 = some (1, 1) := by kernel_rfl
theorem tf_35_2 : tfld Tryd.prog 35 2 = some (2, 1) := by kernel_rfl
theorem tf_35_3 : tfld Tryd.prog 35 3 = some (3, 1) := by kernel_rfl
theorem tf_35_4 : tfld Tryd.prog 35 4 = some (4, 1) := by kernel_rfl
theorem tf_35_5 : tfld Tryd.prog 35 5 = some (5, 1) := by kernel_rfl
theorem tf_35_6 : tfld Tryd.prog 35 6 = some (6, 1) := by kernel_rfl
theorem tf_35_7 : tfld Tryd.prog 35 7 = some (7, 1) := by kernel_rfl
theorem tf_35_8 : tfld Tryd.prog 35 8 = some (8, 1) := by kernel_rfl
theorem tf_35_9 : tfld Tryd.prog 35 9 = some (9, 5) := by kernel_rfl
theorem tf_35_10 : tfld Tryd.prog 35 10 = some (14, 1) := by kernel_rfl
theorem tf_35_11 : tfld Tryd.prog 35 11 = some (15, 1) := by kernel_rfl
theorem tf_35_12 : tfld Tryd.prog 35 12 = some (16, 1) := by kernel_rfl
theorem tf_35_13 : tfld Tryd.prog 35 13 = some (17, 1) := by kernel_rfl
theorem tf_35_14 : tfld Tryd.prog 35 14 = some (18, 1) := by kernel_rfl
theorem tl_36 : tload Tryd.prog 36 = some (some 28) := by kernel_rfl
theorem ts_36 : tst Tryd.prog 36 = some 28 := by kernel_rfl
theorem tz_36 : tz Tryd.prog 36 = some [.int .i64 0, .int .i64 0, .int .i64 0, .int .i64 0, .st [], .int .i64 0, .int .i64 0, .bo false, .bo false, .int .i64 0, .int .i64 0, .int .i64 0, .int .i64 0, .int .i64 0, .int .i64 0, .int .i64 0, .int .i64 0, .int .i64 0, .int .i64 0, .int .i64 0, .int .i64 0, .int .i64 0, .int .i64 0, .int .i64 0, .int .i64 0, .bo false, .int .i64 0, .st []] := by kernel_rfl
theorem tsz_36 : tsz Tryd.prog 36 = 28 := by kernel_rfl
theorem tag_36 : tagg Tryd.prog 36 = true := by kernel_rfl
theorem tb_36 : tbuild Tryd.prog 36 = some [.int .i64 0, .int .i64 0, .int .i64 0, .int .i64 0, .st [], .int .i64 0, .int .i64 0, .bo false, .bo false, .int .i64 0, .int .i64 0, .int .i64 0, .int .i64 0, .int .i64 0, .int .i64 0, .int .i64 0, .int .i64 0, .int .i64 0, .int .i64 0, .int .i64 0, .int .i64 0, .int .i64 0, .int .i64 0, .int .i64 0, .int .i64 0, .bo false, .int .i64 0, .st []] := by kernel_rfl
theorem tf_36_0 : tfld Tryd.prog 36 0 = some (0, 1) := by kernel_rfl
theorem tf_36_1 : tfld Tryd.prog 36 1 = some (1, 1) := by kernel_rfl
theorem tf_36_2 : tfld Tryd.prog 36 2 = some (2, 1) := by kernel_rfl
theorem tf_36_3 : tfld Tryd.prog 36 3 = some (3, 1) := by kernel_rfl
theorem tf_36_4 : tfld Tryd.prog 36 4 = some (4, 1) := by kernel_rfl
theorem tf_36_5 : tfld Tryd.prog 36 5 = some (5, 4) := by kernel_rfl
theorem tf_36_6 : tfld Tryd.prog 36 6 = some (9, 19) := by kernel_rfl
theorem tl_37 : tload Tryd.prog 37 = some (some 28) := by kernel_rfl
theorem ts_37 : tst Tryd.prog 37 = some 28 := by kernel_rfl
theorem tz_37 : tz Tryd.prog 37 = some [.int .i64 0, .int .i64 0, .int .i64 0, .int .i64 0, .st [], .int .i64 0, .int .i64 0, .bo false, .bo false, .int .i64 0, .int .i64 0, .int .i64 0, .int .i64 0, .int .i64 0, .int .i64 0, .int .i64 0, .int .i64 0, .int .i64 0, .int .i64 0, .int .i64 0, .int .i64 0, .int .i64 0, .int .i64 0, .int .i64 0, .int .i64 0, .bo false, .int .i64 0, .st []] := by kernel_rfl
theorem tsz_37 : tsz Tryd.prog 37 = 28 := by kernel_rfl
theorem tag_37 : tagg Tryd.prog 37 = true := by kernel_rfl
theorem tb_37 : tbuild Tryd.prog 37 = some [.int .i64 0, .int .i64 0, .int .i64 0, .int .i64 0, .st [], .int .i64 0, .int .i64 0, .bo false, .bo false, .int .i64 0, .int .i64 0, .int .i64 0, .int .i64 0, .int .i64 0, .int .i64 0, .int .i64 0, .int .i64 0, .int .i64 0, .int .i64 0, .int .i64 0, .int .i64 0, .int .i64 0, .int .i64 0, .int .i64 0, .int .i64 0, .bo false, .int .i64 0, .st []] := by kernel_rfl
theorem tf_37_0 : tfld Tryd.prog 37 0 = some (0, 1) := by kernel_rfl
theorem tf_37_1 : tfld Tryd.prog 37 1 = some (1, 1) := by kernel_rfl
theorem tf_37_2 : tfld Tryd.prog 37 2 = some (2, 1) := by kernel_rfl
theorem tf_37_3 : tfld Tryd.prog 37 3 = some (3, 1) := by kernel_rfl
theorem tf_37_4 : tfld Tryd.prog 37 4 = some (4, 1) := by kernel_rfl
theorem tf_37_5 : tfld Tryd.prog 37 5 = some (5, 4) := by kernel_rfl
theorem tf_37_6 : tfld Tryd.prog 37 6 = some (9, 19) := by kernel_rfl
theorem tl_44 : tload Tryd.prog 44 = some none := by kernel_rfl
theorem ts_44 : tst Tryd.prog 44 = some 1 := by kernel_rfl
theorem tz_44 : tz Tryd.prog 44 = some [.nil] := by kernel_rfl
theorem tsl_44 : tsl Tryd.prog 44 = some (5, 1) := by kernel_rfl
theorem tl_52 : tload Tryd.prog 52 = some (some 2) := by kernel_rfl
theorem ts_52 : tst Tryd.prog 52 = some 2 := by kernel_rfl
theorem tz_52 : tz Tryd.prog 52 = some [.int .i64 0, .int .i64 0] := by kernel_rfl
theorem tsz_52 : tsz Tryd.prog 52 = 2 := by kernel_rfl
theorem tag_52 : tagg Tryd.prog 52 = true := by kernel_rfl
theorem tb_52 : tbuild Tryd.prog 52 = some [.int .i64 0, .int .i64 0] := by kernel_rfl
theorem tf_52_0 : tfld Tryd.prog 52 0 = some (0, 1) := by kernel_rfl
theorem tf_52_1 : tfld Tryd.prog 52 1 = some (1, 1) := by kernel_rfl
theorem tl_53 : tload Tryd.prog 53 = some (some 2) := by kernel_rfl
theorem ts_53 : tst Tryd.prog 53 = some 2 := by kernel_rfl
theorem tz_53 : tz Tryd.prog 53 = some [.int .i64 0, .int .i64 0] := by kernel_rfl
theorem tsz_53 : tsz Tryd.prog 53 = 2 := by kernel_rfl
theorem tag_53 : tagg Tryd.prog 53 = true := by kernel_rfl
theorem tb_53 : tbuild Tryd.prog 53 = some [.int .i64 0, .int .i64 0] := by kernel_rfl
theorem tf_53_0 : tfld Tryd.prog 53 0 = some (0, 1) := by kernel_rfl
theorem tf_53_1 : tfld Tryd.prog 53 1 = some (1, 1) := by kernel_rfl
theorem tl_62 : tload Tryd.prog 62 = some none := by kernel_rfl
theorem ts_62 : tst Tryd.prog 62 = some 1 := by kernel_rfl
theorem tz_62 : tz Tryd.prog 62 = some [.nil] := by kernel_rfl
theorem tsl_62 : tsl Tryd.prog 62 = some (9, 1) := by kernel_rfl
theorem tl_74 : tload Tryd.prog 74 = some (some 13) := by kernel_rfl
theorem ts_74 : tst Tryd.prog 74 = some 13 := by kernel_rfl
theorem tz_74 : tz Tryd.prog 74 = some [.st [], .st [], .st [], .st [], .st [], .st [], .st [], .st [], .st [], .st [], .st [], .st [], .st []] := by kernel_rfl
theorem tl_85 : tload Tryd.prog 85 = some none := by kernel_rfl
theorem ts_85 : tst Tryd.prog 85 = some 1 := by kernel_rfl
theorem tz_85 : tz Tryd.prog 85 = some [.un] := by kernel_rfl
theorem tl_87 : tload Tryd.prog 87 = some none := by kernel_rfl
theorem ts_87 : tst Tryd.prog 87 = some 1 := by kernel_rfl
theorem tz_87 : tz Tryd.prog 87 = some [.nil] := by kernel_rfl
theorem tsl_87 : tsl Tryd.prog 87 = some (90, 1) := by kernel_rfl
theorem tl_89 : tload Tryd.prog 89 = some none := by kernel_rfl
theorem ts_89 : tst Tryd.prog 89 = some 1 := by kernel_rfl
theorem tz_89 : tz Tryd.prog 89 = some [.un] := by kernel_rfl
theorem tl_90 : tload Tryd.prog 90 = some none := by kernel_rfl
theorem ts_90 : tst Tryd.prog 90 = some 1 := by kernel_rfl
theorem tz_90 : tz Tryd.prog 90 = some [.un] := by kernel_rfl
theorem tl_94 : tload Tryd.prog 94 = some none := by kernel_rfl
theorem ts_94 : tst Tryd.prog 94 = some 1 := by kernel_rfl
theorem tz_94 : tz Tryd.prog 94 = some [.nil] := by kernel_rfl
theorem tsl_94 : tsl Tryd.prog 94 = some (3, 1) := by kernel_rfl
theorem tl_97 : tload Tryd.prog 97 = some none := by kernel_rfl
theorem ts_97 : tst Tryd.prog 97 = some 1 := by kernel_rfl
theorem tz_97 : tz Tryd.prog 97 = some [.nil] := by kernel_rfl
theorem tsl_97 : tsl Tryd.prog 97 = some (53, 2) := by kernel_rfl
theorem tl_110 : tload Tryd.prog 110 = some (some 3) := by kernel_rfl
theorem ts_110 : tst Tryd.prog 110 = some 3 := by kernel_rfl
theorem tz_110 : tz Tryd.prog 110 = some [.nil, .int .i64 0, .int .i64 0] := by kernel_rfl
theorem tsz_110 : tsz Tryd.prog 110 = 3 := by kernel_rfl
theorem tag_110 : tagg Tryd.prog 110 = true := by kernel_rfl
theorem tb_110 : tbuild Tryd.prog 110 = some [.nil, .int .i64 0, .int .i64 0] := by kernel_rfl
theorem tf_110_0 : tfld Tryd.prog 110 0 = some (0, 1) := by kernel_rfl
theorem tf_110_1 : tfld Tryd.prog 110 1 = some (1, 1) := by kernel_rfl
theorem tf_110_2 : tfld Tryd.prog 110 2 = some (2, 1) := by kernel_rfl
theorem tl_111 : tload Tryd.prog 111 = some (some 3) := by kernel_rfl
theorem ts_111 : tst Tryd.prog 111 = some 3 := by kernel_rfl
theorem tz_111 : tz Tryd.prog 111 = some [.nil, .int .i64 0, .int .i64 0] := by kernel_rfl
theorem tsz_111 : tsz Tryd.prog 111 = 3 := by kernel_rfl
theorem tag_111 : tagg Tryd.prog 111 = true := by kernel_rfl
theorem tb_111 : tbuild Tryd.prog 111 = some [.nil, .int .i64 0, .int .i64 0] := by kernel_rfl
theorem tf_111_0 : tfld Tryd.prog 111 0 = some (0, 1) := by kernel_rfl
theorem tf_111_1 : tfld Tryd.prog 111 1 = some (1, 1) := by kernel_rfl
theorem tf_111_2 : tfld Tryd.prog 111 2 = some (2, 1) := by kernel_rfl
theorem tl_112 : tload Tryd.prog 112 = some none := by kernel_rfl
theorem ts_112 : tst Tryd.prog 112 = some 1 := by kernel_rfl
theorem tz_112 : tz Tryd.prog 112 = some [.int .u64 0] := by kernel_rfl
theorem tl_119 : tload Tryd.prog 119 = some (some 4) := by kernel_rfl
theorem ts_119 : tst Tryd.prog 119 = some 4 := by kernel_rfl
theorem tz_119 : tz Tryd.prog 119 = some [.un, .un, .un, .st []] := by kernel_rfl
theorem tsz_119 : tsz Tryd.prog 119 = 4 := by kernel_rfl
theorem tag_119 : tagg Tryd.prog 119 = true := by kernel_rfl
theorem tb_119 : tbuild Tryd.prog 119 = some [.un, .un, .un, .st []] := by kernel_rfl
theorem tf_119_0 : tfld Tryd.prog 119 0 = some (0, 1) := by kernel_rfl
theorem tf_119_1 : tfld Tryd.prog 119 1 = some (1, 1) := by kernel_rfl
theorem tf_119_2 : tfld Tryd.prog 119 2 = some (2, 1) := by kernel_rfl
theorem tf_119_3 : tfld Tryd.prog 119 3 = some (3, 1) := by kernel_rfl
theorem tl_121 : tload Tryd.prog 121 = some (some 0) := by kernel_rfl
theorem ts_121 : tst Tryd.prog 121 = some 0 := by kernel_rfl
theorem tl_122 : tload Tryd.prog 122 = some (some 0) := by kernel_rfl
theorem ts_122 : tst Tryd.prog 122 = some 0 := by kernel_rfl
theorem tsz_122 : tsz Tryd.prog 122 = 0 := by kernel_rfl
theorem tag_122 : tagg Tryd.prog 122 = true := by kernel_rfl
theorem tl_125 : tload Tryd.prog 125 = some none := by kernel_rfl
theorem ts_125 : tst Tryd.prog 125 = some 1 := by kernel_rfl
theorem tz_125 : tz Tryd.prog 125 = some [.int .u32 0] := by kernel_rfl
theorem tl_129 : tload Tryd.prog 129 = some none := by kernel_rfl
theorem ts_129 : tst Tryd.prog 129 = some 1 := by kernel_rfl
theorem tz_129 : tz Tryd.prog 129 = some [.un] := by kernel_rfl
theorem tl_132 : tload Tryd.prog 132 = some (some 11) := by kernel_rfl
theorem ts_132 : tst Tryd.prog 132 = some 11 := by kernel_rfl
theorem tsz_132 : tsz Tryd.prog 132 = 11 := by kernel_rfl
theorem tag_132 : tagg Tryd.prog 132 = true := by kernel_rfl
theorem tf_132_0 : tfld Tryd.prog 132 0 = some (0, 1) := by kernel_rfl
theorem tf_132_1 : tfld Tryd.prog 132 1 = some (1, 1) := by kernel_rfl
theorem tf_132_2 : tfld Tryd.prog 132 2 = some (2, 1) := by kernel_rfl
theorem tf_132_3 : tfld Tryd.prog 132 3 = some (3, 1) := by kernel_rfl
theorem tf_132_4 : tfld Tryd.prog 132 4 = some (4, 1) := by kernel_rfl
theorem tf_132_5 : tfld Tryd.prog 132 5 = some (5, 1) := by kernel_rfl
theorem tf_132_6 : tfld Tryd.prog 132 6 = some (6, 1) := by kernel_rfl
theorem tf_132_8 : tfld Tryd.prog 132 8 = some (8, 1) := by kernel_rfl
theorem tf_132_9 : tfld Tryd.prog 132 9 = some (9, 1) := by kernel_rfl
theorem tf_132_10 : tfld Tryd.prog 132 10 = some (10, 1) := by kernel_rfl
theorem tcv_3_5 : tcv Tryd.prog 3 5 = some (.int .u8) := by kernel_rfl
theorem tcv_5_3 : tcv Tryd.prog 5 3 = some (.int .i64) := by kernel_rfl
theorem tcv_44_9 : tcv Tryd.prog 44 9 = some .b2s := by kernel_rfl
attribute [go_sem] tl_2 ts_2 tz_2 tl_3 ts_3 tz_3 tl_4 ts_4 tz_4 tbo_4 tl_5 ts_5 tz_5 tl_9 ts_9 tz_9 tstr_9 tl_12 ts_12 tz_12 tl_21 ts_21 tz_21 tl_22 ts_22 tz_22 tsz_22 tag_22 tb_22 tf_22_0 tf_22_1 tf_22_2 tf_22_3 tl_23 ts_23 tz_23 tsz_23 tag_23 tb_23 tf_23_0
attribute [go_sem] tf_23_1 tf_23_2 tf_23_3 tl_24 ts_24 tz_24 tsz_24 tag_24 tb_24 tf_24_0 tf_24_1 tf_24_2 tf_24_3 tf_24_4 tl_25 ts_25 tz_25 tsz_25 tag_25 tb_25 tf_25_0 tf_25_1 tf_25_2 tf_25_3 tf_25_4 tl_26 ts_26 tz_26 tsz_26 tag_26 tb_26 tf_26_0 tf_26_1 tf_26_2 tf_26_3 tf_26_4 tf_26_5 tf_26_6 tf_26_7 tf_26_8
attribute [go_sem] tf_26_9 tf_26_10 tf_26_11 tf_26_12 tf_26_13 tf_26_14 tl_27 ts_27 tz_27 tsz_27 tag_27 tb_27 tf_27_0 tf_27_1 tf_27_2 tf_27_3 tf_27_4 tf_27_5 tf_27_6 tf_27_7 tf_27_8 tf_27_9 tf_27_10 tf_27_11 tf_27_12 tf_27_13 tf_27_14 tl_28 ts_28 tz_28 tsz_28 tag_28 tb_28 tf_28_0 tf_28_1 tf_28_2 tf_28_3 tf_28_4 tf_28_5 tf_28_6
attribute [go_sem] tl_29 ts_29 tz_29 tsz_29 tag_29 tb_29 tf_29_0 tf_29_1 tf_29_2 tf_29_3 tf_29_4 tf_29_5 tf_29_6 tl_32 ts_32 tz_32 tsz_32 tag_32 tb_32 tf_32_0 tf_32_1 tf_32_2 tf_32_3 tl_33 ts_33 tz_33 tsz_33 tag_33 tb_33 tf_33_0 tf_33_1 tf_33_2 tf_33_3 tf_33_4 tl_34 ts_34 tz_34 tsz_34 tag_34 tb_34
attribute [go_sem] tf_34_0 tf_34_1 tf_34_2 tf_34_3 tf_34_4 tf_34_5 tf_34_6 tf_34_7 tf_34_8 tf_34_9 tf_34_10 tf_34_11 tf_34_12 tf_34_13 tf_34_14 tl_35 ts_35 tz_35 tsz_35 tag_35 tb_35 tf_35_0 tf_35_1 tf_35_2 tf_35_3 tf_35_4 tf_35_5 tf_35_6 tf_35_7 tf_35_8 tf_35_9 tf_35_10 tf_35_11 tf_35_12 tf_35_13 tf_35_14 tl_36 ts_36 tz_36 tsz_36
attribute [go_sem] tag_36 tb_36 tf_36_0 tf_36_1 tf_36_2 tf_36_3 tf_36_4 tf_36_5 tf_36_6 tl_37 ts_37 tz_37 tsz_37 tag_37 tb_37 tf_37_0 tf_37_1 tf_37_2 tf_37_3 tf_37_4 tf_37_5 tf_37_6 tl_44 ts_44 tz_44 tsl_44 tl_52 ts_52 tz_52 tsz_52 tag_52 tb_52 tf_52_0 tf_52_1 tl_53 ts_53 tz_53 tsz_53 tag_53 tb_53
attribute [go_sem] tf_53_0 tf_53_1 tl_62 ts_62 tz_62 tsl_62 tl_74 ts_74 tz_74 tl_85 ts_85 tz_85 tl_87 ts_87 tz_87 tsl_87 tl_89 ts_89 tz_89 tl_90 ts_90 tz_90 tl_94 ts_94 tz_94 tsl_94 tl_97 ts_97 tz_97 tsl_97 tl_110 ts_110 tz_110 tsz_110 tag_110 tb_110 tf_110_0 tf_110_1 tf_110_2 tl_111
attribute [go_sem] ts_111 tz_111 tsz_111 tag_111 tb_111 tf_111_0 tf_111_1 tf_111_2 tl_112 ts_112 tz_112 tl_119 ts_119 tz_119 tsz_119 tag_119 tb_119 tf_119_0 tf_119_1 tf_119_2 tf_119_3 tl_121 ts_121 tl_122 ts_122 tsz_122 tag_122 tl_125 ts_125 tz_125 tl_129 ts_129 tz_129 tl_132 ts_132 tsz_132 tag_132 tf_132_0 tf_132_1 tf_132_2
attribute [go_sem] tf_132_3 tf_132_4 tf_132_5 tf_132_6 tf_132_8 tf_132_9 tf_132_10 tcv_3_5 tcv_5_3 tcv_44_9
end
section
open Go.RowKit
set_option linter.unusedVariables false
set_option linter.unusedSimpArgs false

def opTmps (op : Op) : List Tmp := op.operands.toList.filterMap fun | .tmp t => some t | _ => none
/-- Slots that an operation reads, its guard's among them. -/
def looks (r : Array Oper) (o : Oper) : List Tmp :=
  opTmps o.op ++ (match o.guard with
    | some (g, _) => ((r[g]?).bind (·.dst)).toList
    | none => [])
/-- 0: computes; 1: reads memory; 2: makes memory; 3: a call; 4: writes. -/
def clsOp (P : Program) (op : Op) : Nat :=
  match op with
  | .convert s d _ => match tcv P s d with
    | some (.int _) | some .str => 0
    | some (.s2b _) => 2
    | some .b2s => 1
    | none => 4
  | .move _ | .assign _ | .pick .. | .build .. | .nilCheck _ | .binOp .. | .unOp .. | .fieldAddr .. | .index .. | .extract .. => 0
  | .call ⟨.builtin .len, _, _⟩ | .call ⟨.builtin .min, _, _⟩ | .call ⟨.builtin .max, _, _⟩ => 0
  | .load .. | .indexAddr .. | .slice .. => 1
  | .alloc _ | .box .. | .buildSlice .. | .makeSlice .. => 2
  | .call ⟨.value _, _, _⟩ => 3
  | _ => 4
def cls (P : Program) (o : Oper) : Nat := clsOp P o.op
def optNe (a b : Option Tmp) : Bool :=
  match a, b with
  | some x, some y => x != y
  | _, _ => true
def notIn (a : Option Tmp) (l : List Tmp) : Bool :=
  match a with
  | some x => !l.contains x
  | none => true
/-- i, which computes or reads, may go ahead of j. -/
def indepB (P : Program) (r : Array Oper) (i j : Oper) : Bool :=
  optNe i.dst j.dst && notIn i.dst (looks r j) && notIn j.dst (looks r i) && (cls P i == 0 && cls P j != 5 || cls P i == 1 && cls P j != 4)

theorem Slots.put_comm (s : Slots) (a b : Nat) (v u : Option AV) (h : a ≠ b) : (s.put a v).put b u = (s.put b u).put a v := by
  unfold Slots.put
  by_cases hc : a / 16 = b / 16
  · rw [hc]
    by_cases hl : b / 16 < s.length
    · simp only [List.getD_eq_getElem?_getD, List.getElem?_set_self hl, Option.getD_some, List.set_set]
      congr 1
      exact List.set_comm _ _ (by omega)
    · have h1 : ∀ x, s.set (b / 16) x = s := fun x => List.set_eq_of_length_le (by omega)
      simp only [h1]
  · have h1 : ∀ x, (s.set (a / 16) x).getD (b / 16) [] = s.getD (b / 16) [] := fun x => by
      simp only [List.getD_eq_getElem?_getD, List.getElem?_set_ne hc]
    have h2 : ∀ x, (s.set (b / 16) x).getD (a / 16) [] = s.getD (a / 16) [] := fun x => by
      simp only [List.getD_eq_getElem?_getD, List.getElem?_set_ne (Ne.symm hc)]
    rw [h1, h2]
    exact List.set_comm _ _ hc
theorem get_put_ne (s : Slots) (d t : Nat) (v : Option AV) (h : d ≠ t) : (s.put d v).get t = s.get t := by
  rw [Slots.get_put, if_neg (Ne.symm h)]

/-- Two states that an operation cannot tell apart by their slots. -/
def Alike (l : List Tmp) (s s' : S) : Prop := ∀ t ∈ l, s.sl.get t = s'.sl.get t
theorem alike_put {l : List Tmp} {s : S} {d : Option Tmp} {v : Option AV} {h : Hp} (hd : notIn d l = true) : Alike l s (s.put d v h) := by
  intro t ht
  cases d with
  | none => rfl
  | some d =>
    have hne : d ≠ t := fun e => by
      subst e
      simp only [notIn, Bool.not_eq_true', List.contains_eq_mem, decide_eq_false_iff_not] at hd
      exact hd ht
    exact (get_put_ne s.sl d t v hne).symm
theorem ev_alike {s s' : S} {x : Operand} (h : ∀ t, x = .tmp t → s.sl.get t = s'.sl.get t) : s.ev x = s'.ev x := by
  cases x with
  | tmp t => exact h t rfl
  | _ => rfl
theorem mem_opTmps {op : Op} {t : Tmp} (h : (.tmp t : Operand) ∈ op.operands.toList) : t ∈ opTmps op := by
  unfold opTmps
  rw [List.mem_filterMap]
  exact ⟨.tmp t, h, rfl⟩
theorem parts_alike {s s' : S} : ∀ {l : List (Nat × Operand)}, (∀ p ∈ l, s.ev p.2 = s'.ev p.2) → s.parts l = s'.parts l
  | [], _ => rfl
  | (i, x) :: l, h => by
    have h1 := h (i, x) (by simp)
    dsimp only at h1
    simp only [S.parts, h1, parts_alike (l := l) (fun p hp => h p (by simp [hp]))]
theorem scals_alike {s s' : S} : ∀ {l : List Operand}, (∀ x ∈ l, s.ev x = s'.ev x) → s.scals l = s'.scals l
  | [], _ => rfl
  | x :: l, h => by
    have h1 := h x (by simp)
    simp only [S.scals, h1, scals_alike (l := l) (fun p hp => h p (by simp [hp]))]
theorem evs_alike {s s' : S} : ∀ {l : List Operand}, (∀ x ∈ l, s.ev x = s'.ev x) → s.evs l = s'.evs l
  | [], _ => rfl
  | x :: l, h => by
    have h1 := h x (by simp)
    simp only [S.evs, h1, evs_alike (l := l) (fun p hp => h p (by simp [hp]))]
theorem optInt_alike {s s' : S} {x : Option Operand} (h : ∀ y, x = some y → s.ev y = s'.ev y) : optInt s x = optInt s' x := by
  cases x with
  | none => rfl
  | some y => simp only [optInt, h y rfl]
/-- An operation does the same at two states that it cannot tell apart. -/
theorem aop_alike {P : Program} {s s' : S} {ty : TypeId} {op : Op} (hh : s.hp = s'.hp) (h : Alike (opTmps op) s s') : aop P s ty op = aop P s' ty op := by
  have ev : ∀ x, x ∈ op.operands.toList → s.ev x = s'.ev x := fun x hx => ev_alike fun t ht => h t (mem_opTmps (by rw [← ht]; exact hx))
  have ob : ∀ o, s.obj o = s'.obj o := fun o => by unfold S.obj; rw [hh]
  have vl : ∀ v, s.val v = s'.val v := fun v => by unfold S.val; rw [hh]
  have vc : ∀ v c, s.valc v c = s'.valc v c := fun v c => by unfold S.valc; rw [hh]
  have nw : ∀ o v, s.new o v = s'.new o v := fun o v => by unfold S.new; rw [hh]
  have sl : ∀ v a b, aSlice s v a b = aSlice s' v a b := fun v a b => by
    unfold aSlice
    simp only [vl, vc]
  have ap : ∀ t a x, aAppend P s t a x = aAppend P s' t a x := fun t a x => by
    unfold aAppend
    simp only [vl, ob, hh]
  cases op with
  | move x => simp only [aop, ev x (by simp [Op.operands]), vl]
  | assign x => simp only [aop, ev x (by simp [Op.operands]), vl]
  | pick c x y => simp only [aop, ev c (by simp [Op.operands]), ev x (by simp [Op.operands]), ev y (by simp [Op.operands]), vl]
  | alloc e => simp only [aop, nw, hh]
  | box e x => simp only [aop, ev x (by simp [Op.operands]), nw, hh]
  | build t ps =>
    have := parts_alike (s := s) (s' := s') (l := ps.toList) (fun p hp => ev p.2 (by simp only [Op.operands, List.mem_map]; exact ⟨p, hp, rfl⟩))
    simp only [aop, this, vl]
  | buildSlice t n ps =>
    have := parts_alike (s := s) (s' := s') (l := ps.toList) (fun p hp => ev p.2 (by simp only [Op.operands, List.mem_map]; exact ⟨p, hp, rfl⟩))
    simp only [aop, this, nw, hh]
  | load t x => simp only [aop, ev x (by simp [Op.operands]), ob, vl]
  | store t x y => simp only [aop, ev x (by simp [Op.operands]), ev y (by simp [Op.operands]), ob, hh]
  | nilCheck x => simp only [aop, ev x (by simp [Op.operands]), vl]
  | binOp o t x y u => simp only [aop, ev x (by simp [Op.operands]), ev y (by simp [Op.operands]), vc]
  | unOp o t x => simp only [aop, ev x (by simp [Op.operands]), vl]
  | convert a b x => simp only [aop, ev x (by simp [Op.operands]), vl, vc, ob, hh]
  | makeSlice t x y => simp only [aop, ev x (by simp [Op.operands]), ev y (by simp [Op.operands]), hh]
  | slice t x lo hi mx =>
    cases mx with
    | none =>
      have h1 := optInt_alike (s := s) (s' := s') (x := lo) (fun y hy => ev y (by subst hy; simp [Op.operands]))
      have h2 := optInt_alike (s := s) (s' := s') (x := hi) (fun y hy => ev y (by subst hy; simp [Op.operands]))
      simp only [aop, ev x (by simp [Op.operands]), h1, h2, ob, sl]
    | some m => rfl
  | fieldAddr t x f => simp only [aop, ev x (by simp [Op.operands]), vl]
  | field t x f => simp only [aop, ev x (by simp [Op.operands]), vl]
  | indexAddr t x i => simp only [aop, ev x (by simp [Op.operands]), ev i (by simp [Op.operands]), ob, vc]
  | index t x i => simp only [aop, ev x (by simp [Op.operands]), ev i (by simp [Op.operands]), vc]
  | extract x i => simp only [aop, ev x (by simp [Op.operands]), vl]
  | makeFunc f first caps =>
    cases f with
    | func f =>
      have := scals_alike (s := s) (s' := s') (l := caps.toList) (fun x hx => ev x (by simp [Op.operands]; right; simpa using hx))
      simp only [aop, this, vl]
    | _ => rfl
  | call c =>
    obtain ⟨callee, args, at_⟩ := c
    cases callee with
    | builtin b =>
      have hx : ∀ x, x ∈ args.toList → s.ev x = s'.ev x := fun x hx => ev x (by simp [Op.operands, Call.operands]; simpa using hx)
      cases b with
      | len =>
        simp only [aop]
        split
        · rename_i x t ha ht
          simp only [hx x (by simp [ha]), vl]
        · rfl
      | append =>
        simp only [aop]
        split
        · rename_i x y t t' ha ht
          simp only [hx x (by simp [ha]), hx y (by simp [ha]), ap]
        · rfl
      | min =>
        simp only [aop]
        split
        · rename_i x y ha
          simp only [hx x (by simp [ha]), hx y (by simp [ha]), vl]
        · rfl
      | max =>
        simp only [aop]
        split
        · rename_i x y ha
          simp only [hx x (by simp [ha]), hx y (by simp [ha]), vl]
        · rfl
      | _ => rfl
    | _ => rfl
  | _ => rfl
/-- The heap h has all that s has. -/
def Hp.ext (s h : Hp) : Prop := ∀ (o : Nat) (ob : AObj), s[o]? = some (some ob) → h[o]? = some (some ob)
theorem obj_ext {s : S} {h : Hp} (hx : Hp.ext s.hp h) {o : Nat} {ob : AObj} (ho : s.obj o = some ob) : S.obj ⟨s.sl, h⟩ o = some ob := by
  have := hx o ob (obj_get ho)
  unfold S.obj
  rw [List.getD_eq_getElem?_getD, this]
  rfl
theorem ev_hp (s : S) (h : Hp) (x : Operand) : S.ev ⟨s.sl, h⟩ x = s.ev x := by cases x <;> rfl
theorem parts_hp (s : S) (h : Hp) : ∀ l, S.parts ⟨s.sl, h⟩ l = s.parts l := fun l => parts_alike fun p _ => ev_hp s h p.2
theorem optInt_hp (s : S) (h : Hp) (x : Option Operand) : optInt ⟨s.sl, h⟩ x = optInt s x := optInt_alike fun y _ => ev_hp s h y
/-- An operation that only computes leaves the heap, and does the same at every other heap. -/
theorem aop_pure {P : Program} {s : S} {ty : TypeId} {op : Op} {x : OpR} (hc : clsOp P op = 0) (h : aop P s ty op = some x) : x.hp = s.hp ∧ ∀ h', aop P ⟨s.sl, h'⟩ ty op = some ⟨x.v, h', x.c⟩ := by
  have e := ev_hp s
  have ep := parts_hp s
  cases op with
  | move y | assign y =>
    simp only [aop, e] at h
    split at h
    · rename_i v hv
      simp only [Option.some.injEq] at h
      subst h
      exact ⟨rfl, fun h' => by simp only [aop, e, ep, hv]; rfl⟩
    · cases h
  | pick c y z =>
    simp only [aop, e] at h
    split at h
    · rename_i hv
      split at h
      · rename_i v hv2
        simp only [Option.some.injEq] at h
        subst h
        exact ⟨rfl, fun h' => by simp only [aop, e, ep, hv, hv2]; rfl⟩
      · cases h
    · rename_i hv
      split at h
      · rename_i v hv2
        simp only [Option.some.injEq] at h
        subst h
        exact ⟨rfl, fun h' => by simp only [aop, e, ep, hv, hv2]; rfl⟩
      · cases h
    · cases h
  | build t ps =>
    simp only [aop, ep] at h
    split at h
    · rename_i z hz
      split at h
      · rename_i l hl
        split at h
        · rename_i cs hcs
          simp only [Option.some.injEq] at h
          subst h
          exact ⟨rfl, fun h' => by simp only [aop, e, ep, hz, hl, hcs]; rfl⟩
        · cases h
      · cases h
    · cases h
  | nilCheck y =>
    simp only [aop, e] at h
    split at h
    · rename_i hv
      simp only [Option.some.injEq] at h
      subst h
      exact ⟨rfl, fun h' => by simp only [aop, e, ep, hv]; rfl⟩
    · rename_i hv
      simp only [Option.some.injEq] at h
      subst h
      exact ⟨rfl, fun h' => by simp only [aop, e, ep, hv]; rfl⟩
    · cases h
  | binOp o t y z u =>
    simp only [aop, e] at h
    split at h
    · rename_i hy hz
      split at h
      · rename_i q d hb
        simp only [Option.some.injEq] at h
        subst h
        exact ⟨rfl, fun h' => by simp only [aop, e, ep, hy, hz, hb]; rfl⟩
      · cases h
    · rename_i hy hz
      split at h
      · simp only [Option.some.injEq] at h
        subst h
        exact ⟨rfl, fun h' => by simp only [aop, e, ep, hy, hz]; rfl⟩
      · simp only [Option.some.injEq] at h
        subst h
        exact ⟨rfl, fun h' => by simp only [aop, e, ep, hy, hz]; rfl⟩
      · cases h
    · cases h
  | unOp o t y =>
    simp only [aop, e] at h
    split at h
    · rename_i hy
      split at h
      · simp only [Option.some.injEq] at h
        subst h
        exact ⟨rfl, fun h' => by simp only [aop, e, ep, hy]; rfl⟩
      · cases h
    · rename_i hy
      split at h
      · simp only [Option.some.injEq] at h
        subst h
        exact ⟨rfl, fun h' => by simp only [aop, e, ep, hy]; rfl⟩
      · cases h
    · cases h
  | convert a b y =>
    simp only [aop, e] at h
    split at h
    · rename_i ht hy
      simp only [Option.some.injEq] at h
      subst h
      exact ⟨rfl, fun h' => by simp only [aop, e, ht, hy]; rfl⟩
    · rename_i ht hy
      simp only [Option.some.injEq] at h
      subst h
      exact ⟨rfl, fun h' => by simp only [aop, e, ht, hy]; rfl⟩
    · rename_i ht hy
      simp only [clsOp, ht] at hc
      cases hc
    · rename_i ht hy
      simp only [clsOp, ht] at hc
      cases hc
    · rename_i ht hy
      simp only [clsOp, ht] at hc
      cases hc
    · cases h
  | fieldAddr t y f =>
    simp only [aop, e] at h
    split at h
    · rename_i hy hf
      simp only [Option.some.injEq] at h
      subst h
      exact ⟨rfl, fun h' => by simp only [aop, e, ep, hy, hf]; rfl⟩
    · cases h
  | index t y i =>
    simp only [aop, e] at h
    split at h
    · rename_i hy hi
      split at h
      · rename_i ht
        simp only [Option.some.injEq] at h
        subst h
        exact ⟨rfl, fun h' => by simp only [aop, e, ep, hy, hi, ht]; rfl⟩
      · cases h
    · cases h
  | extract y i =>
    simp only [aop, e] at h
    split at h
    · rename_i hy
      split at h
      · rename_i hl
        simp only [Option.some.injEq] at h
        subst h
        exact ⟨rfl, fun h' => by simp only [aop, e, ep, hy, hl]; rfl⟩
      · cases h
    · cases h
  | call c =>
    obtain ⟨callee, args, at_⟩ := c
    cases callee with
    | builtin b =>
      cases b with
      | len =>
        simp only [aop, e] at h
        split at h
        · rename_i y t ha ht
          split at h
          · rename_i hy
            split at h
            · rename_i hs
              simp only [Option.some.injEq] at h
              subst h
              exact ⟨rfl, fun h' => by simp only [aop, e, ep, ha, ht, hy, hs]; rfl⟩
            · cases h
          · rename_i hy
            split at h
            · rename_i hs
              simp only [Option.some.injEq] at h
              subst h
              exact ⟨rfl, fun h' => by simp only [aop, e, ep, ha, ht, hy, hs]; rfl⟩
            · cases h
          · rename_i hy
            split at h
            · rename_i hs
              simp only [Option.some.injEq] at h
              subst h
              exact ⟨rfl, fun h' => by simp only [aop, e, ep, ha, ht, hy, hs]; rfl⟩
            · cases h
          · cases h
        · cases h
      | min =>
        simp only [aop, e] at h
        split at h
        · rename_i y z ha
          split at h
          · rename_i hy hz
            simp only [Option.some.injEq] at h
            subst h
            exact ⟨rfl, fun h' => by simp only [aop, e, ep, ha, hy, hz]; rfl⟩
          · cases h
        · cases h
      | max =>
        simp only [aop, e] at h
        split at h
        · rename_i y z ha
          split at h
          · rename_i hy hz
            simp only [Option.some.injEq] at h
            subst h
            exact ⟨rfl, fun h' => by simp only [aop, e, ep, ha, hy, hz]; rfl⟩
          · cases h
        · cases h
      | _ => cases hc
    | _ => cases hc
  | _ => cases hc
/-- An operation that reads leaves the heap, and does the same at a heap that has all of this one. -/
theorem aop_read {P : Program} {s : S} {ty : TypeId} {op : Op} {x : OpR} (hc : clsOp P op = 1) (h : aop P s ty op = some x) : x.hp = s.hp ∧ ∀ h', Hp.ext s.hp h' → aop P ⟨s.sl, h'⟩ ty op = some ⟨x.v, h', x.c⟩ := by
  have e := ev_hp s
  cases op with
  | load t y =>
    simp only [aop, e] at h
    split at h
    · rename_i o k j hy
      split at h
      · rename_i ob hob
        split at h
        · rename_i c hk
          split at h
          · rename_i n ht
            split at h
            · rename_i hf
              simp only [Option.some.injEq] at h
              subst h
              exact ⟨rfl, fun h' hx => by simp only [aop, e, optInt_hp s, hy, obj_ext hx hob, hk, ht, hf]; rfl⟩
            · cases h
          · rename_i ht
            split at h
            · rename_i z hz
              simp only [Option.some.injEq] at h
              subst h
              exact ⟨rfl, fun h' hx => by simp only [aop, e, optInt_hp s, hy, obj_ext hx hob, hk, ht, hz]; rfl⟩
            · cases h
          · cases h
        · cases h
      · cases h
    · cases h
  | convert a b y =>
    simp only [aop, e] at h
    split at h
    · rename_i ht hy
      simp only [clsOp, ht] at hc
      cases hc
    · rename_i ht hy
      simp only [clsOp, ht] at hc
      cases hc
    · rename_i ht hy
      simp only [clsOp, ht] at hc
      cases hc
    · rename_i ht hy
      split at h
      · rename_i ob hob
        split at h
        · rename_i hz
          simp only [Option.some.injEq] at h
          subst h
          exact ⟨rfl, fun h' hx => by simp only [aop, e, ht, hy, obj_ext hx hob, hz, if_true]; rfl⟩
        · cases h
      · cases h
    · rename_i ht hy
      simp only [Option.some.injEq] at h
      subst h
      exact ⟨rfl, fun h' hx => by simp only [aop, e, ht, hy]; rfl⟩
    · cases h
  | indexAddr t y i =>
    simp only [aop, e] at h
    split at h
    · rename_i hy hi ht
      split at h
      · rename_i ob hob
        split at h
        · rename_i hz
          simp only [Option.some.injEq] at h
          subst h
          exact ⟨rfl, fun h' hx => by simp only [aop, e, optInt_hp s, hy, hi, ht, obj_ext hx hob, hz, if_true]; rfl⟩
        · cases h
      · cases h
    · cases h
  | slice t y lo hi mx =>
    cases mx with
    | some m => cases h
    | none =>
      have eo := optInt_hp s
      simp only [aop, e, eo] at h
      have sl : ∀ {v : AV} {a b : Option Int} {q : OpR}, aSlice s v a b = some q → q.hp = s.hp ∧ ∀ h', aSlice ⟨s.sl, h'⟩ v a b = some ⟨q.v, h', q.c⟩ := by
        intro v a b q hq
        unfold aSlice at hq
        split at hq <;> first
          | (simp only [Option.some.injEq] at hq; subst hq; exact ⟨rfl, fun h' => rfl⟩)
          | cases hq
      split at h
      · rename_i v a b hy ha hb
        split at h
        · rename_i l
          split at h
          · rename_i ht
            obtain ⟨h1, h2⟩ := sl h
            exact ⟨h1, fun h' hx => by simp only [aop, e, optInt_hp s, hy, ha, hb, ht]; exact h2 h'⟩
          · cases h
        · rename_i o off len
          split at h
          · rename_i q sz ob ht hob
            split at h
            · rename_i hz
              obtain ⟨h1, h2⟩ := sl h
              exact ⟨h1, fun h' hx => by simp only [aop, e, optInt_hp s, hy, ha, hb, ht, obj_ext hx hob, hz, if_true]; exact h2 h'⟩
            · cases h
          · cases h
        · cases h
      · cases h
  | call c =>
    obtain ⟨callee, args, at_⟩ := c
    cases callee with
    | builtin b => cases b <;> cases hc
    | _ => cases hc
  | _ => cases hc

theorem ext_refl (h : Hp) : Hp.ext h h := fun _ _ h => h
theorem ext_append (h k : Hp) : Hp.ext h (h ++ k) := fun o ob ho => by
  rw [List.getElem?_append_left (List.getElem?_eq_some_iff.1 ho).1]; exact ho
/-- What does not write keeps all that was there. -/
theorem aop_ext {P : Program} {s : S} {ty : TypeId} {op : Op} {x : OpR} (h : aop P s ty op = some x) (hc : clsOp P op ≠ 4) : Hp.ext s.hp x.hp := by
  by_cases h0 : clsOp P op = 0
  · rw [(aop_pure h0 h).1]; exact ext_refl _
  · by_cases h1 : clsOp P op = 1
    · rw [(aop_read h1 h).1]; exact ext_refl _
    · cases op with
      | alloc e =>
        simp only [aop] at h
        split at h
        · simp only [Option.some.injEq] at h; subst h; exact ext_append _ _
        · cases h
      | box e y =>
        simp only [aop] at h
        split at h
        · split at h
          · simp only [Option.some.injEq] at h; subst h; exact ext_append _ _
          · cases h
        · cases h
      | buildSlice t n ps =>
        simp only [aop] at h
        split at h
        · split at h
          · split at h
            · split at h
              · split at h
                · simp only [Option.some.injEq] at h; subst h; exact ext_append _ _
                · cases h
              · cases h
            · cases h
          · cases h
        · cases h
      | makeSlice t y z =>
        simp only [aop] at h
        split at h
        · split at h
          · split at h
            · simp only [Option.some.injEq] at h; subst h; exact ext_append _ _
            · cases h
          · cases h
        · cases h
      | convert a b y =>
        simp only [aop] at h
        split at h
        · rename_i ht hy
          simp only [clsOp, ht] at h0
          exact absurd trivial h0
        · rename_i ht hy
          simp only [clsOp, ht] at h0
          exact absurd trivial h0
        · simp only [Option.some.injEq] at h; subst h; exact ext_append _ _
        · rename_i ht hy
          simp only [clsOp, ht] at h1
          exact absurd trivial h1
        · rename_i ht hy
          simp only [clsOp, ht] at h1
          exact absurd trivial h1
        · cases h
      | call c =>
        obtain ⟨callee, args, at_⟩ := c
        cases callee with
        | value f => simp only [aop] at h; cases h
        | builtin b => cases b <;> first | exact absurd rfl h0 | exact absurd rfl hc
        | invoke a b => exact absurd rfl hc
      | move _ => exact absurd rfl h0
      | assign _ => exact absurd rfl h0
      | pick _ _ _ => exact absurd rfl h0
      | build _ _ => exact absurd rfl h0
      | nilCheck _ => exact absurd rfl h0
      | binOp _ _ _ _ _ => exact absurd rfl h0
      | unOp _ _ _ => exact absurd rfl h0
      | fieldAddr _ _ _ => exact absurd rfl h0
      | index _ _ _ => exact absurd rfl h0
      | extract _ _ => exact absurd rfl h0
      | load _ _ => exact absurd rfl h1
      | indexAddr _ _ _ => exact absurd rfl h1
      | slice _ _ _ _ _ => exact absurd rfl h1
      | _ => exact absurd rfl hc

/-- An operation that runs: by itself, or as a call that turns nothing of what was there. -/
def ActN (P : Program) (o : Oper) (s s' : S) : Prop :=
  (∃ x, aop P s o.type o.op = some x ∧ x.c ∧ s' = s.put o.dst x.v x.hp) ∨
  (∃ (y : Operand) (args : Array Operand) (at_ : Array TypeId) (f : Nat) (caps : List Sc) (avs : List AV) (res : AV) (h' : Hp), o.op = .call ⟨.value y, args, at_⟩ ∧ s.ev y = some (.cl f caps) ∧ s.evs args.toList = some avs ∧
    CallA P f (avs ++ scAll caps) s.hp res h' ∧ Hp.ext s.hp h' ∧ s' = s.put o.dst (some res) h')
def StepN (P : Program) (r : Array Oper) (i : Nat) (s s' : S) : Prop :=
  match r[i]? with
  | none => s' = s
  | some o => match guardOf r s o with
    | some true => ActN P o s s'
    | some false => s' = s.put o.dst (some (.tu [])) s.hp
    | none => False
def RunN (P : Program) (r : Array Oper) : List Nat → S → S → Prop
  | [], s, s' => s' = s
  | i :: l, s, s'' => ∃ s', StepN P r i s s' ∧ RunN P r l s' s''
theorem guard_alike {r : Array Oper} {s s' : S} {o : Oper} (h : Alike (looks r o) s s') : guardOf r s o = guardOf r s' o := by
  unfold guardOf
  split
  · rfl
  · rename_i j want hg
    split
    · rename_i oj hj
      split
      · rename_i d hd
        have := h d (by unfold looks; rw [hg]; simp [hj, hd])
        rw [this]
      · rfl
    · rfl
theorem alike_ops {r : Array Oper} {s s' : S} {o : Oper} (h : Alike (looks r o) s s') : Alike (opTmps o.op) s s' := fun t ht => h t (by unfold looks; exact List.mem_append_left _ ht)
theorem put_put (s : S) {a b : Option Tmp} (v u : Option AV) (h h' : Hp) (hne : optNe a b = true) : (s.put a v h).put b u h' = (s.put b u h').put a v h' := by
  cases a with
  | none => cases b <;> rfl
  | some a => cases b with
    | none => rfl
    | some b =>
      have : a ≠ b := by simpa [optNe] using hne
      simp only [S.put, Slots.put_comm s.sl a b v u this]
theorem put_hp (s : S) (d : Option Tmp) (v : Option AV) (h : Hp) : (s.put d v h).hp = h := by cases d <;> rfl
/-- A step that computes or reads, ahead of another one, may be done behind it. -/
theorem swap {P : Program} {r : Array Oper} {i j : Nat} {oi oj : Oper} (hi : r[i]? = some oi) (hj : r[j]? = some oj) (hind : indepB P r oi oj = true) {s s1 s2 : S} (h1 : StepN P r i s s1) (h2 : StepN P r j s1 s2) :
    ∃ s1', StepN P r j s s1' ∧ StepN P r i s1' s2 := by
  simp only [indepB, Bool.and_eq_true, Bool.or_eq_true, beq_iff_eq, bne_iff_ne] at hind
  obtain ⟨⟨⟨hne, hij⟩, hji⟩, hcls⟩ := hind
  have hci : cls P oi = 0 ∨ cls P oi = 1 := by rcases hcls with h | h; exact .inl h.1; exact .inr h.1
  unfold StepN at h1 h2
  rw [hi] at h1
  rw [hj] at h2
  dsimp only at h1 h2
  -- what step i does: it puts a value, and leaves the heap
  have key : ∃ v, s1 = s.put oi.dst v s.hp ∧ ∀ (t : S), Alike (looks r oi) s t → (cls P oi = 0 ∨ Hp.ext s.hp t.hp) → StepN P r i t (t.put oi.dst v t.hp) := by
    split at h1
    · rename_i hg
      rcases h1 with ⟨x, hx, hc, rfl⟩ | ⟨y, args, at_, f, caps, avs, res, h', ho, _⟩
      · have hx2 : x.hp = s.hp ∧ ∀ t : S, Alike (looks r oi) s t → (cls P oi = 0 ∨ Hp.ext s.hp t.hp) → aop P t oi.type oi.op = some ⟨x.v, t.hp, x.c⟩ := by
          have eqv : ∀ t : S, Alike (looks r oi) s t → aop P t oi.type oi.op = aop P ⟨s.sl, t.hp⟩ oi.type oi.op := fun t ha => (aop_alike (s := ⟨s.sl, t.hp⟩) (s' := t) rfl (fun q hq => alike_ops ha q hq)).symm
          rcases hci with h0 | h0
          · obtain ⟨e1, e2⟩ := aop_pure h0 hx
            exact ⟨e1, fun t ha _ => by rw [eqv t ha]; exact e2 t.hp⟩
          · obtain ⟨e1, e2⟩ := aop_read h0 hx
            exact ⟨e1, fun t ha he => by rw [eqv t ha]; exact e2 t.hp (he.resolve_left (by rw [h0]; simp))⟩
        refine ⟨x.v, by rw [hx2.1], fun t ha he => ?_⟩
        unfold StepN
        rw [hi]
        dsimp only
        rw [← guard_alike ha, hg]
        exact .inl ⟨_, hx2.2 t ha he, hc, rfl⟩
      · exfalso
        have : cls P oi = 3 := by unfold cls; rw [ho]; rfl
        omega
    · rename_i hg
      refine ⟨some (.tu []), h1, fun t ha _ => ?_⟩
      unfold StepN
      rw [hi]
      dsimp only
      rw [← guard_alike ha, hg]
    · exact h1.elim
  obtain ⟨v, rfl, hstep⟩ := key
  have hal : Alike (looks r oj) s (s.put oi.dst v s.hp) := alike_put hij
  have hhp : (s.put oi.dst v s.hp).hp = s.hp := put_hp _ _ _ _
  rw [← guard_alike hal] at h2
  -- what step j does
  have fin : ∀ (u : Option AV) (h' : Hp), s2 = (s.put oi.dst v s.hp).put oj.dst u h' → (cls P oi = 0 ∨ Hp.ext s.hp h') → StepN P r j s (s.put oj.dst u h') → ∃ s1', StepN P r j s s1' ∧ StepN P r i s1' s2 := by
    intro u h' he hx hj'
    refine ⟨s.put oj.dst u h', hj', ?_⟩
    have h3 := hstep (s.put oj.dst u h') (alike_put hji) (by rw [put_hp]; exact hx)
    rw [put_hp] at h3
    rw [he, put_put s v u s.hp h' hne]
    exact h3
  split at h2
  · rename_i hg
    rcases h2 with ⟨x, hx, hc, rfl⟩ | ⟨y, args, at_, f, caps, avs, res, h', ho, hy, ha, hcall, hext, rfl⟩
    · have hx' : aop P s oj.type oj.op = some x := by rw [aop_alike (s := s) (s' := s.put oi.dst v s.hp) hhp.symm (alike_ops hal)]; exact hx
      refine fin x.v x.hp rfl ?_ ?_
      · rcases hcls with h0 | h0
        · exact .inl h0.1
        · right
          have h4 : cls P oj ≠ 4 := h0.2
          exact aop_ext hx' h4
      · unfold StepN
        rw [hj]
        dsimp only
        rw [hg]
        exact .inl ⟨x, hx', hc, rfl⟩
    · have hal' := alike_ops hal
      rw [ho] at hal'
      have e1 : s.ev y = some (.cl f caps) := by
        rw [ev_alike (s := s) (s' := s.put oi.dst v s.hp) (x := y) (fun t ht => hal' t (mem_opTmps (by subst ht; simp [Op.operands, Call.operands])))]
        exact hy
      have e2 : s.evs args.toList = some avs := by
        rw [evs_alike (s := s) (s' := s.put oi.dst v s.hp) (l := args.toList) (fun z hz => ev_alike fun t ht => hal' t (mem_opTmps (by subst ht; simp [Op.operands, Call.operands]; right; simpa using hz)))]
        exact ha
      rw [hhp] at hcall hext
      refine fin (some res) h' rfl (.inr hext) ?_
      unfold StepN
      rw [hj]
      dsimp only
      rw [hg]
      exact .inr ⟨y, args, at_, f, caps, avs, res, h', ho, e1, e2, hcall, hext, rfl⟩
  · rename_i hg
    refine fin (some (.tu [])) s.hp (by rw [h2, hhp]) (.inr fun o ob h => h) ?_
    unfold StepN
    rw [hj]
    dsimp only
    rw [hg]
  · exact h2.elim
/-- i may change places with j, which computes alone. -/
def indepC (P : Program) (r : Array Oper) (i j : Oper) : Bool :=
  optNe i.dst j.dst && notIn i.dst (looks r j) && notIn j.dst (looks r i) && cls P j == 0
theorem swapC {P : Program} {r : Array Oper} {i j : Nat} {oi oj : Oper} (hi : r[i]? = some oi) (hj : r[j]? = some oj) (hind : indepC P r oi oj = true) {s s1 s2 : S} (h1 : StepN P r i s s1) (h2 : StepN P r j s1 s2) :
    ∃ s1', StepN P r j s s1' ∧ StepN P r i s1' s2 := by
  simp only [indepC, Bool.and_eq_true, beq_iff_eq] at hind
  obtain ⟨⟨⟨hne, hij⟩, hji⟩, hcj⟩ := hind
  unfold StepN at h1 h2
  rw [hi] at h1
  rw [hj] at h2
  dsimp only at h1 h2
  -- what step i does: it puts a value and a heap
  have key : ∃ v hp, s1 = s.put oi.dst v hp ∧ ∀ (t : S), Alike (looks r oi) s t → t.hp = s.hp → StepN P r i t (t.put oi.dst v hp) := by
    split at h1
    · rename_i hg
      rcases h1 with ⟨x, hx, hc, rfl⟩ | ⟨y, args, at_, f, caps, avs, res, h', ho, hy, ha, hcall, hext, rfl⟩
      · refine ⟨x.v, x.hp, rfl, fun t ha he => ?_⟩
        unfold StepN
        rw [hi]
        dsimp only
        rw [← guard_alike ha, hg]
        exact .inl ⟨x, by rw [← aop_alike he.symm (alike_ops ha)]; exact hx, hc, rfl⟩
      · refine ⟨some res, h', rfl, fun t hal he => ?_⟩
        unfold StepN
        rw [hi]
        dsimp only
        rw [← guard_alike hal, hg]
        have hal' := alike_ops hal
        rw [ho] at hal'
        have e1 : t.ev y = some (.cl f caps) := by
          rw [← ev_alike (s := s) (s' := t) (x := y) (fun q hq => hal' q (mem_opTmps (by subst hq; simp [Op.operands, Call.operands])))]
          exact hy
        have e2 : t.evs args.toList = some avs := by
          rw [← evs_alike (s := s) (s' := t) (l := args.toList) (fun z hz => ev_alike fun q hq => hal' q (mem_opTmps (by subst hq; simp [Op.operands, Call.operands]; right; simpa using hz)))]
          exact ha
        exact .inr ⟨y, args, at_, f, caps, avs, res, h', ho, e1, e2, by rw [he]; exact hcall, by rw [he]; exact hext, rfl⟩
    · rename_i hg
      refine ⟨some (.tu []), s.hp, h1, fun t ha he => ?_⟩
      unfold StepN
      rw [hi]
      dsimp only
      rw [← guard_alike ha, hg]
      dsimp only
      rw [he]
    · exact h1.elim
  obtain ⟨v, hp, rfl, hstep⟩ := key
  have hal : Alike (looks r oj) s (s.put oi.dst v hp) := alike_put hij
  rw [← guard_alike hal] at h2
  have fin : ∀ (u : Option AV), s2 = (s.put oi.dst v hp).put oj.dst u hp → StepN P r j s (s.put oj.dst u s.hp) → ∃ s1', StepN P r j s s1' ∧ StepN P r i s1' s2 := by
    intro u he hj'
    refine ⟨s.put oj.dst u s.hp, hj', ?_⟩
    have h3 := hstep (s.put oj.dst u s.hp) (alike_put hji) (put_hp _ _ _ _)
    rw [he, put_put s v u hp hp hne]
    have e : ∀ (a b : S) (d : Option Tmp) (x : Option AV) (h : Hp), a.sl = b.sl → a.put d x h = b.put d x h := by
      intro a b d x h hab
      cases d <;> simp [S.put, hab]
    rw [e (s.put oj.dst u hp) (s.put oj.dst u s.hp) oi.dst v hp (by cases oj.dst <;> rfl)]
    exact h3
  split at h2
  · rename_i hg
    rcases h2 with ⟨x, hx, hc, rfl⟩ | ⟨y, args, at_, f, caps, avs, res, h', ho, _⟩
    · have hx1 : aop P ⟨s.sl, hp⟩ oj.type oj.op = some x := by
        rw [aop_alike (s := ⟨s.sl, hp⟩) (s' := s.put oi.dst v hp) (by rw [put_hp]) (fun q hq => alike_ops hal q hq)]
        exact hx
      obtain ⟨e1, e2⟩ := aop_pure hcj hx1
      have e3 := e2 s.hp
      refine fin x.v (by rw [e1]) ?_
      unfold StepN
      rw [hj]
      dsimp only
      rw [hg]
      exact .inl ⟨_, e3, hc, rfl⟩
    · exfalso
      have : cls P oj = 3 := by unfold cls; rw [ho]; rfl
      omega
  · rename_i hg
    refine fin (some (.tu [])) (by rw [h2, put_hp]) ?_
    unfold StepN
    rw [hj]
    dsimp only
    rw [hg]
  · exact h2.elim
end
section
open Go.RowKit
set_option linter.unusedVariables false
set_option linter.unusedSimpArgs false

/-- A step, in the world. -/
theorem stepN_wp {P : Program} {E : Entry} {r : Array Oper} {i : Nat} {s s1 : S} {β : Be} {a : Act} {w : World} {Q : Exit → Act → World → Prop} {K : Act → World → Prop} (h : StepN P r i s s1) (hs : Sim E β s a w) (hK : ∀ β' a' w', Sim E β' s1 a' w' → K a' w') : wpOp P r Q i K a w := by
  unfold wpOp
  unfold StepN at h
  split at h
  · rename_i hi
    subst h
    rw [hi]
    exact hK β a w hs
  · rename_i o ho
    rw [ho]
    dsimp only
    split at h
    · rename_i hg
      rw [if_pos (guard_R hs.sl hg)]
      refine .inl ?_
      unfold Oper.wp
      rcases h with ⟨x, hx, hc, rfl⟩ | ⟨y, args, at_, f, caps, avs, res, h', hop, hy, ha, ⟨⟨fn, hfn, hname, hbody⟩, hcall⟩, _, rfl⟩
      · obtain ⟨β', w', hst, hh, hx'⟩ := aop_sound hs.hp hs.sl hx hc
        rcases hx' with ⟨v, av, hrun, hv, hr⟩ | ⟨hrun, hv⟩
        · rw [hrun]
          rw [hv] at hK
          exact hK β' _ w' (sim_put hs hst hh o.dst hr)
        · rw [hrun]
          rw [hv] at hK
          exact hK β' _ w' (sim_putNone hs hst hh o.dst undef)
      · obtain ⟨cvs, hxe, hcl⟩ : AVR β (.cl f caps) (a.eval y) := ev_R hs.sl hy
        have hav := evs_R hs.sl ha
        have hvs : L2 (AVR β) (avs ++ scAll caps) (args.toList.map a.eval ++ cvs) := hav.append (scAll_R hcl)
        have hrun : (execOp a.eval o).run P w = .ok (.enter f (args.toList.map a.eval ++ cvs).toArray) w := by
          unfold execOp
          rw [hop]
          have e1 : args.map a.eval = (args.toList.map a.eval).toArray := by apply Array.ext'; simp
          have hname' : ¬ fn.name = "runtime.NumGoroutine" := by simpa using hname
          simp only [resolve, hxe, Deferred.ofValue, invoke, callFunc, Sem.run_bind, run_program, Sem.run_pure, Result.andThen_ok, hfn, e1]
          simp [hname', hbody]
        rw [hrun, Oper.upon_enter]
        refine (hcall β w _ hs.hp hvs).mono fun e w' ⟨β', v, he, hr, hh, hst⟩ => ?_
        subst he
        exact hK β' _ w' (sim_put hs hst hh o.dst hr)
    · rename_i hg
      rw [guard_R hs.sl hg]
      subst h
      exact hK β _ w (sim_put hs (StepR.refl β s.hp w hs.hp.len) hs.hp o.dst ⟨[], rfl, trivial⟩)
    · exact h.elim

def clo1 (T : List Nat) (o : Oper) : Nat := o.after.toList.foldl (fun m e => if Region.binds .any e then m ||| (1 <<< e.on) ||| T.getD e.on 0 else m) 0
def cloT : List Oper → List Nat → List Nat
  | [], T => T
  | o :: l, T => cloT l (T ++ [clo1 T o])
def clo (r : Array Oper) : List Nat := cloT r.toList []
/-- Each operation waits for earlier ones alone. -/
def backB (r : Array Oper) : Bool := (List.range r.size).all fun i => match r[i]? with
  | some o => o.after.toList.all fun e => !Region.binds .any e || decide (e.on < i)
  | none => true
theorem fold_bit (T : List Nat) (p : Nat) : ∀ (l : List Edge) (m : Nat), (l.foldl (fun m e => if Region.binds .any e then m ||| (1 <<< e.on) ||| T.getD e.on 0 else m) m).testBit p = true ↔
    m.testBit p = true ∨ ∃ e ∈ l, Region.binds .any e = true ∧ (e.on = p ∨ (T.getD e.on 0).testBit p = true)
  | [], m => by simp
  | e :: l, m => by
    rw [List.foldl_cons, fold_bit T p l]
    cases hb : Region.binds .any e
    · simp [hb]
    · simp only [if_true, Nat.testBit_or, Bool.or_eq_true, Nat.one_shiftLeft, Nat.testBit_two_pow, decide_eq_true_eq, List.mem_cons, exists_eq_or_imp, hb, true_and]
      constructor
      · rintro (((h | h) | h) | h)
        · exact .inl h
        · exact .inr (.inl (.inl h))
        · exact .inr (.inl (.inr h))
        · exact .inr (.inr h)
      · rintro (h | (h | h) | h)
        · exact .inl (.inl (.inl h))
        · exact .inl (.inl (.inr h))
        · exact .inl (.inr h)
        · exact .inr h
theorem cloT_old : ∀ (l : List Oper) (T : List Nat) (i : Nat), i < T.length → (cloT l T)[i]? = T[i]?
  | [], T, i, _ => rfl
  | o :: l, T, i, h => by
    rw [cloT, cloT_old l _ i (by simp; omega), List.getElem?_append_left h]
theorem cloT_new : ∀ (l : List Oper) (T : List Nat) (j : Nat) (o : Oper), l[j]? = some o → ∃ T', (cloT l T)[T.length + j]? = some (clo1 T' o) ∧ T'.length = T.length + j ∧ ∀ k, k < T.length + j → T'[k]? = (cloT l T)[k]?
  | [], T, j, o, h => by simp at h
  | o' :: l, T, 0, o, h => by
    simp at h
    subst h
    refine ⟨T, ?_, by simp, fun k hk => ?_⟩
    · rw [cloT, cloT_old l _ _ (by simp)]
      simp
    · rw [cloT, cloT_old l _ _ (by simp; omega), List.getElem?_append_left (by omega)]
  | o' :: l, T, j + 1, o, h => by
    obtain ⟨T', h1, h2, h3⟩ := cloT_new l (T ++ [clo1 T o']) j o (by simpa using h)
    simp only [List.length_append, List.length_cons, List.length_nil] at h1 h2 h3
    refine ⟨T', ?_, by omega, fun k hk => ?_⟩
    · rw [cloT, show T.length + (j + 1) = T.length + (0 + 1) + j from by omega]; exact h1
    · rw [cloT]; exact h3 k (by omega)
theorem clo_spec {r : Array Oper} {i : Nat} {o : Oper} (ho : r[i]? = some o) (p : Nat) : ((clo r).getD i 0).testBit p = true ↔ ∃ e ∈ o.after.toList, Region.binds .any e = true ∧ (e.on = p ∨ (e.on < i ∧ ((clo r).getD e.on 0).testBit p = true)) := by
  obtain ⟨T', h1, h2, h3⟩ := cloT_new r.toList [] i o (by simpa using ho)
  simp only [List.length_nil, Nat.zero_add] at h1 h2 h3
  have e1 : (clo r).getD i 0 = clo1 T' o := by unfold clo; rw [List.getD_eq_getElem?_getD, h1]; rfl
  rw [e1]
  unfold clo1
  rw [fold_bit]
  simp only [Nat.zero_testBit, Bool.false_eq_true, false_or]
  constructor
  · rintro ⟨e, he, hb, h⟩
    refine ⟨e, he, hb, h.imp id fun h => ?_⟩
    rcases Nat.lt_or_ge e.on i with hlt | hge
    · refine ⟨hlt, ?_⟩
      rw [List.getD_eq_getElem?_getD, h3 _ hlt] at h
      rw [List.getD_eq_getElem?_getD]
      exact h
    · rw [List.getD_eq_getElem?_getD, List.getElem?_eq_none (by omega)] at h
      simp at h
  · rintro ⟨e, he, hb, h⟩
    refine ⟨e, he, hb, h.imp id fun ⟨hlt, h⟩ => ?_⟩
    rw [List.getD_eq_getElem?_getD, h3 _ hlt]
    rw [List.getD_eq_getElem?_getD] at h
    exact h
/-- All that listed operations wait for is listed. -/
def Closed (r : Array Oper) (listed : Array Bool) : Prop := ∀ (i : Nat) (o : Oper), r[i]? = some o → listed.getD i false = true → ∀ e ∈ o.after.toList, Region.binds .any e = true → listed.getD e.on false = true
theorem clo_listed {r : Array Oper} {listed : Array Bool} (hc : Closed r listed) : ∀ (i : Nat) (o : Oper), r[i]? = some o → (∀ e ∈ o.after.toList, Region.binds .any e = true → listed.getD e.on false = true) → ∀ p, ((clo r).getD i 0).testBit p = true → listed.getD p false = true := by
  intro i
  induction i using Nat.strongRecOn with
  | _ i ih =>
    intro o ho ha p hp
    obtain ⟨e, he, hb, h⟩ := (clo_spec ho p).1 hp
    rcases h with rfl | ⟨hlt, h⟩
    · exact ha e he hb
    · have hl := ha e he hb
      cases hr : r[e.on]? with
      | none =>
        exfalso
        have hn : (clo r)[e.on]? = none := by
          rw [Array.getElem?_eq_none_iff] at hr
          have hlt2 := (Array.getElem?_eq_some_iff.1 ho).1
          omega
        rw [List.getD_eq_getElem?_getD, hn] at h
        simp at h
      | some oj => exact ih e.on hlt oj hr (hc e.on oj hr hl) p h

/-- p stands ahead of q. -/
def before : List Nat → Nat → Nat → Bool
  | [], p, q => decide (p < q)
  | i :: l, p, q => if i = p then true else if i = q then false else before l p q
theorem before_total {p q : Nat} (hne : p ≠ q) : ∀ {l : List Nat}, before l p q = true ∨ before l q p = true
  | [] => by simp only [before, decide_eq_true_eq]; omega
  | i :: l => by
    simp only [before]
    by_cases h1 : i = p
    · exact .inl (by rw [if_pos h1])
    · by_cases h2 : i = q
      · exact .inr (by rw [if_pos h2])
      · rw [if_neg h1, if_neg h2, if_neg h2, if_neg h1]
        exact before_total hne
/-- In this order, of any two the second waits for the first, or they may be swapped; and none waits for a later one. -/
def okP (P : Program) (r : Array Oper) (T : List Nat) (ex : List (Nat × Nat)) (p q : Nat) : Bool :=
  p != q && !(T.getD p 0).testBit q &&
  ((T.getD q 0).testBit p || ex.contains (p, q) || match r[p]?, r[q]? with
    | some x, some y => indepB P r x y || indepC P r x y
    | _, _ => false)
def okL (P : Program) (r : Array Oper) (T : List Nat) (ex : List (Nat × Nat)) : List Nat → Bool
  | [] => true
  | p :: l => l.all (okP P r T ex p) && okL P r T ex l
theorem okL_drop {P : Program} {r : Array Oper} {T : List Nat} {ex : List (Nat × Nat)} {i : Nat} : ∀ {l m : List Nat}, okL P r T ex (l ++ i :: m) = true → okL P r T ex (l ++ m) = true
  | [], m, h => by simp only [List.nil_append, okL, Bool.and_eq_true] at h ⊢; exact h.2
  | p :: l, m, h => by
    simp only [List.cons_append, okL, Bool.and_eq_true, List.all_eq_true] at h ⊢
    refine ⟨fun q hq => h.1 q ?_, okL_drop h.2⟩
    simp only [List.mem_append, List.mem_cons] at hq ⊢
    exact hq.imp id .inr
theorem okL_at {P : Program} {r : Array Oper} {T : List Nat} {ex : List (Nat × Nat)} {i p : Nat} : ∀ {l m : List Nat}, okL P r T ex (l ++ i :: m) = true → p ∈ l → okP P r T ex p i = true
  | [], m, _, h => by simp at h
  | q :: l, m, h, hp => by
    simp only [List.cons_append, okL, Bool.and_eq_true, List.all_eq_true] at h
    rcases List.mem_cons.1 hp with rfl | hp
    · exact h.1 i (by simp)
    · exact okL_at h.2 hp
theorem okL_head {P : Program} {r : Array Oper} {T : List Nat} {ex : List (Nat × Nat)} {i p : Nat} {l : List Nat} (h : okL P r T ex (i :: l) = true) (hp : p ∈ l) : okP P r T ex i p = true := by
  simp only [okL, Bool.and_eq_true, List.all_eq_true] at h
  exact h.1 p hp
theorem okL_nodup {P : Program} {r : Array Oper} {T : List Nat} {ex : List (Nat × Nat)} : ∀ {l : List Nat}, okL P r T ex l = true → l.Nodup
  | [], _ => List.nodup_nil
  | p :: l, h => by
    refine List.nodup_cons.2 ⟨fun hp => ?_, okL_nodup (by simp only [okL, Bool.and_eq_true] at h; exact h.2)⟩
    have := okL_head h hp
    simp [okP] at this
/-- An operation that may go first goes first. -/
theorem run_front {P : Program} {r : Array Oper} {i : Nat} : ∀ {l m : List Nat} {s s' : S}, (∀ p ∈ l, ∃ x y, r[p]? = some x ∧ r[i]? = some y ∧ (indepB P r x y || indepC P r x y) = true) → RunN P r (l ++ i :: m) s s' → RunN P r (i :: (l ++ m)) s s'
  | [], m, s, s', _, h => h
  | p :: l, m, s, s', hl, h => by
    obtain ⟨s1, h1, h2⟩ := h
    obtain ⟨s2, h3, h4⟩ := run_front (fun q hq => hl q (List.mem_cons_of_mem _ hq)) h2
    obtain ⟨x, y, hx, hy, hind⟩ := hl p (by simp)
    rcases (Bool.or_eq_true _ _).mp hind with hind | hind
    · obtain ⟨s1', h5, h6⟩ := swap hx hy hind h1 h3
      exact ⟨s1', h5, s2, h6, h4⟩
    · obtain ⟨s1', h5, h6⟩ := swapC hx hy hind h1 h3
      exact ⟨s1', h5, s2, h6, h4⟩
/-- A drawn order. -/
def Drawn (r : Array Oper) : Nat → Array Bool → List Nat → Prop
  | fuel, listed, [] => fuel = 0 ∨ Region.ready .any r listed = []
  | 0, _, _ :: _ => False
  | fuel + 1, listed, i :: τ => i ∈ Region.ready .any r listed ∧ Drawn r fuel (listed.setIfInBounds i true) τ
theorem drawn_go {r : Array Oper} : ∀ (fuel t : Nat) (listed : Array Bool), Drawn r fuel listed (Region.linearise.go .any r fuel t listed [])
  | 0, t, listed => by simp [Region.linearise.go, Drawn]
  | fuel + 1, t, listed => by
    simp only [Region.linearise.go]
    change Drawn r (fuel + 1) listed (match (Region.ready .any r listed)[t % (Region.ready .any r listed).length]? with
      | some i => Region.linearise.go .any r fuel (t / (Region.ready .any r listed).length) (listed.setIfInBounds i true) [i]
      | none => [].reverse)
    cases hi : (Region.ready .any r listed)[t % (Region.ready .any r listed).length]? with
    | none =>
      have hnil : Region.ready .any r listed = [] := by
        cases hr : Region.ready .any r listed with
        | nil => rfl
        | cons x xs =>
          rw [hr] at hi
          have hlt : t % (x :: xs).length < (x :: xs).length := Nat.mod_lt _ (by simp)
          simp at hi
          simp at hlt
          omega
      exact .inr hnil
    | some i =>
      simp only []
      rw [linearise_go_acc, List.reverse_singleton, List.singleton_append]
      exact ⟨List.mem_of_getElem? hi, drawn_go fuel _ _⟩
theorem ready_iff {r : Array Oper} {listed : Array Bool} {i : Nat} : i ∈ Region.ready .any r listed ↔ ∃ o, r[i]? = some o ∧ listed.getD i true = false ∧ ∀ e ∈ o.after.toList, Region.binds .any e = true → listed.getD e.on false = true := by
  unfold Region.ready
  simp only [List.mem_filter, List.mem_range, Bool.and_eq_true, Bool.not_eq_true']
  constructor
  · rintro ⟨hlt, h1, h2⟩
    refine ⟨r[i], Array.getElem?_eq_getElem hlt, h1, fun e he hb => ?_⟩
    rw [Array.getElem?_eq_getElem hlt] at h2
    simp only [Option.map_some, Option.getD_some, Array.all_eq_true_iff_forall_mem, Bool.or_eq_true, Bool.not_eq_true'] at h2
    rcases h2 e (by simpa using he) with h | h
    · rw [hb] at h; cases h
    · exact h
  · rintro ⟨o, ho, h1, h2⟩
    refine ⟨(Array.getElem?_eq_some_iff.1 ho).1, h1, ?_⟩
    rw [ho]
    simp only [Option.map_some, Option.getD_some, Array.all_eq_true_iff_forall_mem, Bool.or_eq_true, Bool.not_eq_true']
    intro e he
    cases hb : Region.binds .any e with
    | false => exact .inl rfl
    | true => exact .inr (h2 e (by simpa using he) hb)
theorem set_getD {l : Array Bool} {i j : Nat} {d : Bool} (hi : i < l.size) : (l.setIfInBounds i true).getD j d = if i = j then true else l.getD j d := by
  simp only [Array.getD_eq_getD_getElem?, Array.getElem?_setIfInBounds]
  by_cases h : i = j
  · subst h; simp [hi]
  · simp [h]
theorem back_lt {r : Array Oper} (h : backB r = true) {i : Nat} {o : Oper} (ho : r[i]? = some o) {e : Edge} (he : e ∈ o.after.toList) (hb : Region.binds .any e = true) : e.on < i := by
  unfold backB at h
  rw [List.all_eq_true] at h
  have := h i (List.mem_range.2 (Array.getElem?_eq_some_iff.1 ho).1)
  rw [ho] at this
  have := (List.all_eq_true.1 this) e he
  rw [hb] at this
  simpa using this
theorem drawn_nil {r : Array Oper} {fuel : Nat} {listed : Array Bool} (h : Drawn r fuel listed []) : fuel = 0 ∨ Region.ready .any r listed = [] := by
  cases fuel <;> exact h
theorem ops_of_run {P : Program} {E : Entry} {r : Array Oper} {Q : Exit → Act → World → Prop} {ex : List (Nat × Nat)} {s' : S} (hback : backB r = true) (hQ : ∀ β' a' w', Sim E β' s' a' w' → Q .normal a' w') :
    ∀ (τ : List Nat) (fuel : Nat) (listed : Array Bool) (σ : List Nat) (s : S) (β : Be) (a : Act) (w : World), Drawn r fuel listed τ → listed.size = r.size → σ.length ≤ fuel → (∀ i, i ∈ σ ↔ i < r.size ∧ listed.getD i true = false) → Closed r listed →
      okL P r (clo r) ex σ = true → (∀ p q, ex.contains (p, q) = true → p ∈ σ → q ∈ σ → before τ p q = true) → RunN P r σ s s' → Sim E β s a w → wpOps P r Q τ a w
  | [], fuel, listed, σ, s, β, a, w, hd, hsz, hf, hm, hc, hok, hx, hrun, hs => by
    have hnil : σ = [] := by
      rcases drawn_nil hd with rfl | hd
      · exact List.length_eq_zero_iff.1 (by omega)
      · cases σ with
        | nil => rfl
        | cons p l =>
          exfalso
          have hp := (hm p).1 (by simp)
          have : p ∈ Region.ready .any r listed := by
            refine ready_iff.2 ⟨r[p], Array.getElem?_eq_getElem hp.1, hp.2, fun e he hb => ?_⟩
            have hbit : ((clo r).getD p 0).testBit e.on = true := (clo_spec (Array.getElem?_eq_getElem hp.1) e.on).2 ⟨e, he, hb, .inl rfl⟩
            have hlt0 := back_lt hback (Array.getElem?_eq_getElem hp.1) he hb
            have hlt : e.on < r.size := Nat.lt_trans hlt0 hp.1
            cases hl : listed.getD e.on false with
            | true => rfl
            | false =>
              exfalso
              have hl' : listed.getD e.on true = false := by
                rw [Array.getD_eq_getD_getElem?, Array.getElem?_eq_getElem (by omega)] at hl ⊢
                exact hl
              have hmem : e.on ∈ p :: l := (hm e.on).2 ⟨hlt, hl'⟩
              rcases List.mem_cons.1 hmem with hep | hmem
              · omega
              · have := okL_head hok hmem
                simp only [okP, Bool.and_eq_true, Bool.not_eq_true'] at this
                rw [this.1.2] at hbit
                cases hbit
          rw [hd] at this
          simp at this
    subst hnil
    have : s' = s := hrun
    subst this
    exact hQ β a w hs
  | i :: τ, 0, listed, σ, s, β, a, w, hd, _, _, _, _, _, _, _, _ => hd.elim
  | i :: τ, fuel + 1, listed, σ, s, β, a, w, hd, hsz, hf, hm, hc, hok, hx, hrun, hs => by
    obtain ⟨hi, hd⟩ := hd
    obtain ⟨o, ho, h1, h2⟩ := ready_iff.1 hi
    have hil : i < r.size := (Array.getElem?_eq_some_iff.1 ho).1
    have hiσ : i ∈ σ := (hm i).2 ⟨hil, h1⟩
    obtain ⟨l, m, rfl⟩ := List.append_of_mem hiσ
    have hnd := okL_nodup hok
    have hfront : ∀ p ∈ l, ∃ x y, r[p]? = some x ∧ r[i]? = some y ∧ (indepB P r x y || indepC P r x y) = true := by
      intro p hp
      have hpl := (hm p).1 (by simp [hp])
      have h3 := okL_at hok hp
      have hpi : p ≠ i := by
        intro e
        subst e
        simp [okP] at h3
      simp only [okP, Bool.and_eq_true, Bool.or_eq_true] at h3
      rcases h3.2 with (h4 | h4) | h4
      · exfalso
        have := clo_listed hc i o ho h2 p h4
        have h5 := hpl.2
        rw [Array.getD_eq_getD_getElem?, Array.getElem?_eq_getElem (by omega)] at this h5
        simp only [Option.getD_some] at this h5
        rw [this] at h5
        cases h5
      · exfalso
        have := hx p i h4 (by simp [hp]) (by simp)
        simp [before, hpi, Ne.symm hpi] at this
      · split at h4
        · rename_i x y hx hy
          exact ⟨x, y, hx, hy, h4⟩
        · cases h4
    obtain ⟨s1, h3, h4⟩ := run_front hfront hrun
    have hset : ∀ (j : Nat) (d : Bool), (listed.setIfInBounds i true).getD j d = if i = j then true else listed.getD j d := fun j d => set_getD (by omega)
    rw [wpOps_cons]
    refine stepN_wp h3 hs fun β' a' w' hs' => ?_
    refine ops_of_run hback hQ τ fuel (listed.setIfInBounds i true) (l ++ m) s1 β' a' w' hd (by simpa using hsz) ?_ ?_ ?_ (okL_drop hok) ?_ h4 hs'
    · simp only [List.length_append, List.length_cons] at hf ⊢
      omega
    · intro j
      have hj := hm j
      rw [hset]
      have hd1 : i ∉ l ∧ i ∉ m := by
        rw [List.nodup_append] at hnd
        exact ⟨fun h => hnd.2.2 i h i (by simp) rfl, (List.nodup_cons.1 hnd.2.1).1⟩
      simp only [List.mem_append, List.mem_cons] at hj ⊢
      by_cases hij : i = j
      · subst hij
        simp [hd1.1, hd1.2]
      · rw [if_neg hij, ← hj]
        simp [Ne.symm hij]
    · intro j oj hj hl e he hb
      rw [hset] at hl ⊢
      by_cases hij : i = j
      · subst hij
        rw [hj] at ho
        cases ho
        split
        · rfl
        · exact h2 e he hb
      · rw [if_neg hij] at hl
        split
        · rfl
        · exact hc j oj hj hl e he hb
    · intro p q hpq hp hq
      have hd1 : i ∉ l ∧ i ∉ m := by
        rw [List.nodup_append] at hnd
        exact ⟨fun h => hnd.2.2 i h i (by simp) rfl, (List.nodup_cons.1 hnd.2.1).1⟩
      have hne : ∀ x ∈ l ++ m, i ≠ x := by
        intro x hx e
        subst e
        exact (List.mem_append.1 hx).elim hd1.1 hd1.2
      have hin : ∀ x ∈ l ++ m, x ∈ l ++ i :: m := by
        intro x hx
        simp only [List.mem_append, List.mem_cons] at hx ⊢
        exact hx.imp id .inr
      have := hx p q hpq (hin p hp) (hin q hq)
      simpa [before, hne p hp, hne q hq] using this
/-- The ways to order pairs. -/
def choices : List (Nat × Nat) → List (List (Nat × Nat))
  | [] => [[]]
  | (a, b) :: U => (choices U).flatMap fun l => [(a, b) :: l, (b, a) :: l]
theorem choice_of (τ : List Nat) : ∀ {U : List (Nat × Nat)}, (∀ u ∈ U, u.1 ≠ u.2) → ∃ ex ∈ choices U, ∀ p q, ex.contains (p, q) = true → before τ p q = true
  | [], _ => ⟨[], by simp [choices], fun p q h => by simp at h⟩
  | (a, b) :: U, h => by
    obtain ⟨ex, h1, h2⟩ := choice_of τ (U := U) fun u hu => h u (by simp [hu])
    have hne : a ≠ b := h (a, b) (by simp)
    rcases before_total hne (l := τ) with h3 | h3
    · refine ⟨(a, b) :: ex, List.mem_flatMap.2 ⟨ex, h1, by simp⟩, fun p q hpq => ?_⟩
      simp only [List.contains_cons, Bool.or_eq_true, beq_iff_eq, Prod.mk.injEq] at hpq
      rcases hpq with ⟨rfl, rfl⟩ | hpq
      · exact h3
      · exact h2 p q hpq
    · refine ⟨(b, a) :: ex, List.mem_flatMap.2 ⟨ex, h1, by simp⟩, fun p q hpq => ?_⟩
      simp only [List.contains_cons, Bool.or_eq_true, beq_iff_eq, Prod.mk.injEq] at hpq
      rcases hpq with ⟨rfl, rfl⟩ | hpq
      · exact h3
      · exact h2 p q hpq
def coverB (P : Program) (r : Array Oper) (U : List (Nat × Nat)) (os : List (List Nat)) : Bool :=
  backB r && U.all (fun u => u.1 != u.2) && os.all (fun σ => σ.length == r.size && (List.range r.size).all σ.contains && σ.all fun i => decide (i < r.size)) &&
  (let T := clo r; (choices U).all fun ex => os.any fun σ => okL P r T ex σ)
theorem wp_drawn {P : Program} {E : Entry} {id : Nat} {r : Array Oper} {U : List (Nat × Nat)} {os : List (List Nat)} (hP : P.follows .mixedOrders = true) (hcov : coverB P r U os = true) {s : S} {K : S → Prop}
    (h : ∀ σ ∈ os, ∃ s', RunN P r σ s s' ∧ ∀ β a w, Sim E β s' a w → ∃ β' t, K t ∧ Sim E β' t a w) : Den P E (.region id r true) s fun e s' => e = .normal ∧ K s' := by
  intro β a w hs Q hQ
  refine wp_region_draw fun t => ?_
  simp only [Region.schedule, hP, Bool.true_or, if_true]
  simp only [coverB, Bool.and_eq_true] at hcov
  obtain ⟨⟨⟨hback, hU⟩, hperm⟩, hch⟩ := hcov
  have hd := drawn_go (r := r) r.size t (Array.replicate r.size false)
  obtain ⟨ex, hex, hbef⟩ := choice_of (Region.linearise .any r t) (U := U) fun u hu => by
    have := List.all_eq_true.1 hU u hu
    simpa using this
  obtain ⟨σ, hσ, hok⟩ := List.any_eq_true.1 (List.all_eq_true.1 hch ex hex)
  have hp := List.all_eq_true.1 hperm σ hσ
  simp only [Bool.and_eq_true, beq_iff_eq, List.all_eq_true, List.mem_range, decide_eq_true_eq] at hp
  obtain ⟨⟨hlen, hall⟩, hlt⟩ := hp
  obtain ⟨s', hrun, hK⟩ := h σ hσ
  have hs2 : Sim E β s a { w with drawn := w.drawn + 1 } := ⟨hs.dfr, hs.sl, ⟨hs.hp.len, hs.hp.ob, hs.hp.flat, hs.hp.apart⟩, hs.ent, ⟨hs.st.le, hs.st.os, hs.st.tape, hs.st.output, hs.st.size, hs.st.block, hs.st.len, hs.st.old, hs.st.fresh⟩⟩
  refine ops_of_run hback (fun β' a' w' hs' => let ⟨β2, t2, hk2, hs2⟩ := hK β' a' w' hs'; hQ .normal t2 β2 a' w' ⟨rfl, hk2⟩ hs2) (Region.linearise .any r t) r.size _ σ s β a _ hd (by simp) (by omega) (fun i => ?_) (fun i o ho hl => ?_) hok (fun p q hpq _ _ => hbef p q hpq) hrun hs2
  · constructor
    · intro hi
      refine ⟨hlt i hi, ?_⟩
      simp [Array.getD_eq_getD_getElem?, hlt i hi]
    · rintro ⟨hi, _⟩
      simpa using hall i hi
  · exfalso
    simp only [Array.getD_eq_getD_getElem?, Array.getElem?_replicate] at hl
    split at hl <;> cases hl

inductive StD where
  | go (l : List Nat) (s : S) (c : Prop)
  | call (f : Nat) (args : List AV) (d : Option Tmp) (l : List Nat) (s : S) (c : Prop)
  | fin (s : S) (c : Prop)
  | bad
def stepOpD (P : Program) (o : Oper) (l : List Nat) (s : S) (c : Prop) : StD :=
  match o.op with
  | .call ⟨.value x, args, _⟩ => match s.ev x, s.evs args.toList with
    | some (.cl f caps), some avs => .call f (avs ++ scAll caps) o.dst l s c
    | _, _ => .bad
  | op => match aop P s o.type op with
    | some ⟨v, h, d⟩ => .go l (s.put o.dst v h) (c ∧ d)
    | none => .bad
def stepD (P : Program) (r : Array Oper) : List Nat → S → Prop → StD
  | [], s, c => .fin s c
  | i :: l, s, c => match r[i]? with
    | some o => match guardOf r s o with
      | some b => match b with
        | true => stepOpD P o l s c
        | false => .go l (s.put o.dst (some (.tu [])) s.hp) c
      | none => .bad
    | none => .bad
def runD (P : Program) (r : Array Oper) : Nat → StD → StD
  | 0, x => x
  | n + 1, .go l s c => runD P r n (stepD P r l s c)
  | _ + 1, .call f a d l s c => .call f a d l s c
  | _ + 1, .fin s c => .fin s c
  | _ + 1, .bad => .bad
def denD (P : Program) (r : Array Oper) (G : S → Prop) : StD → Prop
  | .go l s c => c ∧ ∃ s', RunN P r l s s' ∧ G s'
  | .call f args d l s c => c ∧ ∃ res h', CallA P f args s.hp res h' ∧ Hp.ext s.hp h' ∧ ∃ s', RunN P r l (s.put d (some res) h') s' ∧ G s'
  | .fin s c => c ∧ G s
  | .bad => False
theorem stepD_den {P : Program} {r : Array Oper} {G : S → Prop} {l : List Nat} {s : S} {c : Prop} (h : denD P r G (stepD P r l s c)) : denD P r G (.go l s c) := by
  cases l with
  | nil => exact ⟨h.1, s, rfl, h.2⟩
  | cons i l =>
    simp only [stepD] at h
    split at h
    · rename_i o ho
      split at h
      · rename_i b hg
        cases b with
        | true =>
          unfold stepOpD at h
          dsimp only at h
          split at h
          · rename_i x args at_ hop
            split at h
            · rename_i f caps avs hx ha
              obtain ⟨hc, res, h', hcall, hext, s', hrun, hG⟩ := h
              refine ⟨hc, s', ⟨_, ?_, hrun⟩, hG⟩
              unfold StepN
              rw [ho]
              dsimp only
              rw [hg]
              exact .inr ⟨x, args, at_, f, caps, avs, res, h', hop, hx, ha, hcall, hext, rfl⟩
            · exact h.elim
          · split at h
            · rename_i v hp d hx
              obtain ⟨⟨hc, hd⟩, s', hrun, hG⟩ := h
              refine ⟨hc, s', ⟨_, ?_, hrun⟩, hG⟩
              unfold StepN
              rw [ho]
              dsimp only
              rw [hg]
              exact .inl ⟨_, hx, hd, rfl⟩
            · exact h.elim
        | false =>
          obtain ⟨hc, s', hrun, hG⟩ := h
          refine ⟨hc, s', ⟨_, ?_, hrun⟩, hG⟩
          unfold StepN
          rw [ho]
          dsimp only
          rw [hg]
      · exact h.elim
    · exact h.elim
theorem runD_den {P : Program} {r : Array Oper} {G : S → Prop} : ∀ (n : Nat) {x : StD}, denD P r G (runD P r n x) → denD P r G x
  | 0, x, h => h
  | n + 1, .go l s c, h => stepD_den (runD_den n h)
  | n + 1, .call .., h => h
  | n + 1, .fin .., h => h
  | n + 1, .bad, h => h
/-- No object of this heap may be turned. -/
def noOwn : Hp → Bool
  | [] => true
  | some ob :: h => !ob.own && noOwn h
  | none :: h => noOwn h
theorem noOwn_get : ∀ {h : Hp} {i : Nat} {t : AObj}, noOwn h = true → h[i]? = some (some t) → t.own = false
  | [], i, t, _, h => by simp at h
  | some ob :: l, 0, t, hn, h => by
    simp at h
    subst h
    simp [noOwn] at hn
    exact hn.1
  | none :: l, 0, t, hn, h => by simp at h
  | some ob :: l, i + 1, t, hn, h => noOwn_get (h := l) (by simp [noOwn] at hn; exact hn.2) (by simpa using h)
  | none :: l, i + 1, t, hn, h => noOwn_get (h := l) (by simpa [noOwn] using hn) (by simpa using h)
theorem den_callD {P : Program} {r : Array Oper} {G : S → Prop} {f : Nat} {avs : List AV} {d : Option Tmp} {l : List Nat} {s : S} {c : Prop} {args0 : List AV} {h0 h0' : Hp} {res0 : AV} (hc : c) (ct : CallA P f args0 h0 res0 h0') (ρ : Rho)
    (hm : avsM ρ args0 avs ∧ hpM ρ s.hp ρ h0) (hsep : sepB ρ h0 = true) (hno : noOwn h0 = true) (h : denD P r G (.go l (s.put d (some (renAV ρ s.hp.length res0)) (s.hp ++ renHp ρ s.hp.length (h0'.drop h0.length))) True)) : denD P r G (.call f avs d l s c) := by
  have hu : ∀ (ρ' : Rho) (h h' s' : Hp), (∀ (i : Nat) (t : AObj), h[i]? = some (some t) → t.own = false) → updH ρ s.hp.length ρ' h h' s' = s' := by
    intro ρ'
    induction ρ' with
    | nil => intro h h' s' _; simp [updH]
    | cons x ρ' ih =>
      intro h h' s' hn
      cases h with
      | nil => cases x <;> simp [updH]
      | cons y h =>
        have hn' : ∀ (i : Nat) (t : AObj), h[i]? = some (some t) → t.own = false := fun i t ht => hn (i + 1) t (by simpa using ht)
        cases h' with
        | nil => cases x <;> cases y <;> simp [updH]
        | cons z h' =>
          cases x with
          | none => cases y <;> simpa [updH] using ih h h' s' hn'
          | some x =>
            cases y with
            | none => simpa [updH] using ih h h' s' hn'
            | some y =>
              obtain ⟨n, e⟩ := x
              have ho := hn 0 y (by simp)
              simpa [updH, ho] using ih h h' s' hn'
  have hcall : hpCall ρ h0 h0' s.hp = s.hp ++ renHp ρ s.hp.length (h0'.drop h0.length) := by
    unfold hpCall
    rw [hu ρ h0 h0' s.hp fun i t ht => noOwn_get hno ht]
  obtain ⟨_, s', hrun, hG⟩ := h
  refine ⟨hc, _, _, callA_at ct ρ hm.1 hm.2 hsep, ?_, s', by rw [hcall]; exact hrun, hG⟩
  rw [hcall]
  exact ext_append _ _
def allDn (f : List Nat → Prop) : List (List Nat) → Prop
  | [] => True
  | [σ] => f σ
  | σ :: l => f σ ∧ allDn f l
theorem allDn_mem {f : List Nat → Prop} : ∀ {l : List (List Nat)}, allDn f l → ∀ σ ∈ l, f σ
  | [σ], h, _, hm => by simp at hm; subst hm; exact h
  | σ :: τ :: l, h, x, hm => by
    rcases List.mem_cons.1 hm with rfl | hm
    · exact h.1
    · exact allDn_mem h.2 x hm
/-- A region that draws: run it in the given orders. -/
theorem den_draw {P : Program} {E : Entry} {F : S → Prop} {id : Nat} {r : Array Oper} {k : List Item} {s : S} {c : Prop} (U : List (Nat × Nat)) (os : List (List Nat)) (hP : P.follows .mixedOrders = true) (hc : c) (hcov : coverB P r U os = true)
    (h : allDn (fun σ => denD P r (fun s' => den P E F (.go k s' True)) (.go σ s True)) os) : den P E F (.draw id r k s c) := by
  refine ⟨hc, den_mono (wp_drawn hP hcov (K := fun s' => den P E F (.go k s' True)) fun σ hσ => let ⟨s', h1, h2⟩ := (allDn_mem h σ hσ).2; ⟨s', h1, fun β a w hs => ⟨β, s', h2, hs⟩⟩) fun e s' hk => ?_⟩
  obtain ⟨rfl, hk⟩ := hk
  exact hk.2
theorem den_draw1 {P : Program} {E : Entry} {F : S → Prop} {id : Nat} {r : Array Oper} {k : List Item} {s : S} {c : Prop} (σ : List Nat) (hP : P.follows .mixedOrders = true) (hc : c) (hcov : coverB P r [] [σ] = true)
    (h : denD P r (fun s' => den P E F (.go k s' True)) (.go σ s True)) : den P E F (.draw id r k s c) :=
  den_draw [] [σ] hP hc hcov h
attribute [go_sem] runD stepD stepOpD allDn
end
section
open Go.RowKit
set_option linter.unusedVariables false

theorem w64 {n : Int} (h : -9223372036854775808 ≤ n ∧ n ≤ 9223372036854775807) : IntKind.i64.wrap n = n := by
  rw [IntKind.wrap_i64]; omega
theorem w8 {n : Int} (h : 0 ≤ n ∧ n ≤ 255) : IntKind.u8.wrap n = n := by
  rw [IntKind.wrap_u8]; omega
theorem ints_get {l : List Int} {k : Nat} (h : k < l.length) : (l.map intC)[k]? = some [.int .i64 l[k]] := by simp [intC, h]
theorem nat_ne {a b : Nat} (h : a ≠ b) : ((a : Int) == (b : Int)) = false := by simp; omega
theorem cast_add (a b : Nat) : ((a + b : Nat) : Int) = (a : Int) + (b : Int) := Int.natCast_add a b
theorem cast_num (n : Nat) : ((OfNat.ofNat n : Nat) : Int) = OfNat.ofNat n := rfl
theorem cast_one : ((1 : Nat) : Int) = 1 := rfl
theorem cast_zero : ((0 : Nat) : Int) = 0 := rfl
theorem take_len_map {α β : Type} (f : α → β) (l : List α) : List.take l.length (List.map f l) = List.map f l := by
  rw [List.take_of_length_le (by simp)]
theorem ez_1 : ((1 : Nat) = 0) = False := eq_false (by decide)
theorem ez_2 : ((2 : Nat) = 0) = False := eq_false (by decide)
theorem ez_3 : ((3 : Nat) = 0) = False := eq_false (by decide)
theorem ez_4 : ((4 : Nat) = 0) = False := eq_false (by decide)
theorem ez_5 : ((5 : Nat) = 0) = False := eq_false (by decide)
theorem ez_6 : ((6 : Nat) = 0) = False := eq_false (by decide)
theorem ez_7 : ((7 : Nat) = 0) = False := eq_false (by decide)
theorem ez_8 : ((8 : Nat) = 0) = False := eq_false (by decide)
theorem ez_9 : ((9 : Nat) = 0) = False := eq_false (by decide)
theorem ez_10 : ((10 : Nat) = 0) = False := eq_false (by decide)
theorem ez_11 : ((11 : Nat) = 0) = False := eq_false (by decide)
theorem ez_12 : ((12 : Nat) = 0) = False := eq_false (by decide)
theorem ez_13 : ((13 : Nat) = 0) = False := eq_false (by decide)
theorem ez_14 : ((14 : Nat) = 0) = False := eq_false (by decide)
theorem ez_15 : ((15 : Nat) = 0) = False := eq_false (by decide)
theorem ez_16 : ((16 : Nat) = 0) = False := eq_false (by decide)
theorem ez_17 : ((17 : Nat) = 0) = False := eq_false (by decide)
theorem ez_18 : ((18 : Nat) = 0) = False := eq_false (by decide)
theorem ez_19 : ((19 : Nat) = 0) = False := eq_false (by decide)
theorem ez_20 : ((20 : Nat) = 0) = False := eq_false (by decide)
theorem ez_21 : ((21 : Nat) = 0) = False := eq_false (by decide)
theorem ez_22 : ((22 : Nat) = 0) = False := eq_false (by decide)
theorem ez_23 : ((23 : Nat) = 0) = False := eq_false (by decide)
theorem ez_24 : ((24 : Nat) = 0) = False := eq_false (by decide)
theorem ez_25 : ((25 : Nat) = 0) = False := eq_false (by decide)
theorem ez_26 : ((26 : Nat) = 0) = False := eq_false (by decide)
theorem ez_27 : ((27 : Nat) = 0) = False := eq_false (by decide)
theorem ez_28 : ((28 : Nat) = 0) = False := eq_false (by decide)
theorem ez_29 : ((29 : Nat) = 0) = False := eq_false (by decide)
theorem ez_30 : ((30 : Nat) = 0) = False := eq_false (by decide)
theorem ez_31 : ((31 : Nat) = 0) = False := eq_false (by decide)
theorem ez_32 : ((32 : Nat) = 0) = False := eq_false (by decide)
theorem ez_33 : ((33 : Nat) = 0) = False := eq_false (by decide)
theorem ez_34 : ((34 : Nat) = 0) = False := eq_false (by decide)
theorem ez_35 : ((35 : Nat) = 0) = False := eq_false (by decide)
theorem ez_36 : ((36 : Nat) = 0) = False := eq_false (by decide)
theorem ez_37 : ((37 : Nat) = 0) = False := eq_false (by decide)
theorem ez_38 : ((38 : Nat) = 0) = False := eq_false (by decide)
theorem ez_39 : ((39 : Nat) = 0) = False := eq_false (by decide)
attribute [go_sem] ez_1 ez_2 ez_3 ez_4 ez_5 ez_6 ez_7 ez_8 ez_9 ez_10 ez_11 ez_12 ez_13 ez_14 ez_15 ez_16 ez_17 ez_18 ez_19 ez_20 ez_21 ez_22 ez_23 ez_24 ez_25 ez_26 ez_27 ez_28 ez_29 ez_30 ez_31 ez_32 ez_33 ez_34 ez_35 ez_36 ez_37 ez_38 ez_39 if_true if_false
attribute [go_sem] ne_eq not_false_eq_true Nat.le_refl take_len_map cast_add cast_num cast_one cast_zero
attribute [go_sem] Bool.false_eq_true false_implies imp_self and_true true_and Bool.false_and Bool.true_and Bool.and_true Bool.and_false
theorem byteSc_byteC (b : UInt8) : byteSc (byteC b) = b := by simp [byteC, byteSc]
theorem map_byteSc (l : List UInt8) : List.map byteSc (List.map byteC l) = l := by
  rw [List.map_map]
  have : byteSc ∘ byteC = id := funext fun b => byteSc_byteC b
  rw [this, List.map_id]
theorem take_1add {α : Type} (n : Nat) (a : α) (l : List α) : List.take (1 + n) (a :: l) = a :: List.take n l := by
  rw [Nat.add_comm]; rfl
theorem drop_1add {α : Type} (n : Nat) (a : α) (l : List α) : List.drop (1 + n) (a :: l) = List.drop n l := by
  rw [Nat.add_comm]; rfl
attribute [go_sem] byteSc_byteC map_byteSc take_1add drop_1add
theorem isByte_byteC (b : UInt8) : isByte (byteC b) = true := by
  rfl
theorem all_byteC (l : List UInt8) : (∀ c, c ∈ List.map byteC l → isByte c = true) = True := by
  refine eq_true fun c hc => ?_
  obtain ⟨b, _, rfl⟩ := List.mem_map.1 hc
  exact isByte_byteC b
theorem getD_at' {α : Type} {l : List α} {k : Nat} (d : α) (h : k < l.length) : l.getD k d = l[k] := by
  rw [List.getD_eq_getElem?_getD, List.getElem?_eq_getElem h]; rfl
theorem shr4 (b : UInt8) : ((b.toNat : Int).fdiv (2 ^ min 4 8)) = ((b.toNat / 16 : Nat) : Int) := by
  have h : ((b.toNat : Int).fdiv 16) = ((b.toNat / 16 : Nat) : Int) := by
    rw [Int.fdiv_eq_ediv_of_nonneg _ (by omega)]
    omega
  exact h
theorem and15' (b : UInt8) : (BitVec.ofInt 8 (b.toNat : Int) &&& BitVec.ofInt 8 15).toNat = b.toNat % 16 := by
  have hb := b.toNat_lt
  rw [BitVec.toNat_and]
  have h1 : (BitVec.ofInt 8 (b.toNat : Int)).toNat = b.toNat := by
    simp
  rw [h1]
  exact Nat.and_two_pow_sub_one_eq_mod b.toNat 4
theorem and15 (b : UInt8) : @BitVec.toNat 8 (@HAnd.hAnd (BitVec 8) (BitVec 8) (BitVec 8) (@instHAndOfAndOp (BitVec IntKind.u8.bits) (@BitVec.instAndOp IntKind.u8.bits)) (BitVec.ofInt 8 (b.toNat : Int)) (BitVec.ofInt 8 15)) = b.toNat % 16 := and15' b
theorem ntmod_2 (n : Nat) : (n : Int).tmod 2 = ((n % 2 : Nat) : Int) := by
  rw [Int.tmod_eq_emod_of_nonneg (by omega)]; omega
theorem ntdiv_2 (n : Nat) : (n : Int).tdiv 2 = ((n / 2 : Nat) : Int) := by
  rw [Int.tdiv_eq_ediv_of_nonneg (by omega)]; omega
attribute [go_sem] ntmod_2 ntdiv_2
theorem ntmod_3 (n : Nat) : (n : Int).tmod 3 = ((n % 3 : Nat) : Int) := by
  rw [Int.tmod_eq_emod_of_nonneg (by omega)]; omega
theorem ntdiv_3 (n : Nat) : (n : Int).tdiv 3 = ((n / 3 : Nat) : Int) := by
  rw [Int.tdiv_eq_ediv_of_nonneg (by omega)]; omega
attribute [go_sem] ntmod_3 ntdiv_3
theorem ntmod_4 (n : Nat) : (n : Int).tmod 4 = ((n % 4 : Nat) : Int) := by
  rw [Int.tmod_eq_emod_of_nonneg (by omega)]; omega
theorem ntdiv_4 (n : Nat) : (n : Int).tdiv 4 = ((n / 4 : Nat) : Int) := by
  rw [Int.tdiv_eq_ediv_of_nonneg (by omega)]; omega
attribute [go_sem] ntmod_4 ntdiv_4
theorem ntmod_5 (n : Nat) : (n : Int).tmod 5 = ((n % 5 : Nat) : Int) := by
  rw [Int.tmod_eq_emod_of_nonneg (by omega)]; omega
theorem ntdiv_5 (n : Nat) : (n : Int).tdiv 5 = ((n / 5 : Nat) : Int) := by
  rw [Int.tdiv_eq_ediv_of_nonneg (by omega)]; omega
attribute [go_sem] ntmod_5 ntdiv_5
theorem ntmod_6 (n : Nat) : (n : Int).tmod 6 = ((n % 6 : Nat) : Int) := by
  rw [Int.tmod_eq_emod_of_nonneg (by omega)]; omega
theorem ntdiv_6 (n : Nat) : (n : Int).tdiv 6 = ((n / 6 : Nat) : Int) := by
  rw [Int.tdiv_eq_ediv_of_nonneg (by omega)]; omega
attribute [go_sem] ntmod_6 ntdiv_6
theorem ntmod_8 (n : Nat) : (n : Int).tmod 8 = ((n % 8 : Nat) : Int) := by
  rw [Int.tmod_eq_emod_of_nonneg (by omega)]; omega
theorem ntdiv_8 (n : Nat) : (n : Int).tdiv 8 = ((n / 8 : Nat) : Int) := by
  rw [Int.tdiv_eq_ediv_of_nonneg (by omega)]; omega
attribute [go_sem] ntmod_8 ntdiv_8
theorem ntmod_10 (n : Nat) : (n : Int).tmod 10 = ((n % 10 : Nat) : Int) := by
  rw [Int.tmod_eq_emod_of_nonneg (by omega)]; omega
theorem ntdiv_10 (n : Nat) : (n : Int).tdiv 10 = ((n / 10 : Nat) : Int) := by
  rw [Int.tdiv_eq_ediv_of_nonneg (by omega)]; omega
attribute [go_sem] ntmod_10 ntdiv_10
theorem ntmod_16 (n : Nat) : (n : Int).tmod 16 = ((n % 16 : Nat) : Int) := by
  rw [Int.tmod_eq_emod_of_nonneg (by omega)]; omega
theorem ntdiv_16 (n : Nat) : (n : Int).tdiv 16 = ((n / 16 : Nat) : Int) := by
  rw [Int.tdiv_eq_ediv_of_nonneg (by omega)]; omega
attribute [go_sem] ntmod_16 ntdiv_16
theorem ntmod_32 (n : Nat) : (n : Int).tmod 32 = ((n % 32 : Nat) : Int) := by
  rw [Int.tmod_eq_emod_of_nonneg (by omega)]; omega
theorem ntdiv_32 (n : Nat) : (n : Int).tdiv 32 = ((n / 32 : Nat) : Int) := by
  rw [Int.tdiv_eq_ediv_of_nonneg (by omega)]; omega
attribute [go_sem] ntmod_32 ntdiv_32
theorem toNat_addz {k : Nat} {z : Int} (h : 0 ≤ z) : ((k : Int) + z).toNat = k + z.toNat := by omega
def strC (s : List UInt8) : List Sc := [.st s]
theorem strs_get {l : List (List UInt8)} {k : Nat} (h : k < l.length) : (l.map strC)[k]? = some [.st l[k]] := by simp [strC, h]
theorem take_drop_succ {l : List UInt8} {k b : Nat} (h : k < l.length) (hb : b ≤ k) : (l.take (k + 1)).drop b = (l.take k).drop b ++ [l[k]] := by
  rw [List.take_succ_eq_append_getElem h, List.drop_append_of_le_length (by simp; omega)]
theorem getD_u8 {l : List UInt8} {k : Nat} (h : k < l.length) : l.getD k 0 = l[k] := getD_at' 0 h
attribute [go_sem] strC intC
theorem dec_t {a b : Int} (h : a < b) : decide (a < b) = true := decide_eq_true h
theorem dec_f {a b : Int} (h : ¬ a < b) : decide (a < b) = false := decide_eq_false h
theorem dle_t {a b : Int} (h : a ≤ b) : decide (a ≤ b) = true := decide_eq_true h
theorem dle_f {a b : Int} (h : ¬ a ≤ b) : decide (a ≤ b) = false := decide_eq_false h
theorem ieq_t {a b : Int} (h : a = b) : (a == b) = true := beq_iff_eq.2 h
theorem ieq_f {a b : Int} (h : ¬ a = b) : (a == b) = false := beq_eq_false_iff_ne.2 h
theorem ine_t {a b : Int} (h : ¬ a = b) : (a != b) = true := bne_iff_ne.2 h
theorem ine_f {a b : Int} (h : a = b) : (a != b) = false := bne_eq_false_iff_eq.2 h
theorem nat_beq (a b : Nat) : ((a : Int) == (b : Int)) = (a == b) := by
  by_cases h : a = b
  · subst h; simp
  · rw [nat_ne h]; simp [h]
attribute [go_sem] w64 w8 toNat_addz getD_u8 map_get dec_t dec_f dle_t dle_f ieq_t ieq_f ine_t ine_f List.not_mem_nil implies_true or_imp forall_and forall_eq isByte_byteC all_byteC List.length_append
end
section
set_option linter.unusedVariables false
def decGo (n : Nat) (acc : List UInt8) : List UInt8 :=
  if h : n < 10 then UInt8.ofNat (48 + n) :: acc else decGo (n / 10) (UInt8.ofNat (48 + n % 10) :: acc)
termination_by n
decreasing_by omega
def dec (n : Int) : List UInt8 := if n < 0 then 45 :: decGo n.natAbs [] else decGo n.natAbs []
theorem decGo_lt (n : Nat) (acc : List UInt8) : acc.length < (decGo n acc).length := by
  induction n using Nat.strongRecOn generalizing acc with
  | _ n ih =>
    rw [decGo]
    split
    · simp
    · have := ih (n / 10) (by omega) (UInt8.ofNat (48 + n % 10) :: acc)
      simp only [List.length_cons] at this
      omega
theorem decGo_le (k : Nat) : ∀ (n : Nat) (acc : List UInt8), n < 10 ^ (k + 1) → (decGo n acc).length ≤ acc.length + (k + 1) := by
  induction k with
  | zero =>
    intro n acc h
    rw [decGo, dif_pos (by omega)]
    simp
  | succ k ih =>
    intro n acc h
    rw [decGo]
    split
    · simp
    · have := ih (n / 10) (UInt8.ofNat (48 + n % 10) :: acc) (by rw [Nat.pow_succ] at h; omega)
      simp only [List.length_cons] at this
      omega
theorem decGo_20 {n : Int} (h : I64 n) : (decGo n.natAbs []).length ≤ 20 := by
  have h' : -9223372036854775808 ≤ n ∧ n ≤ 9223372036854775807 := h
  have := decGo_le 19 n.natAbs [] (by omega)
  simpa using this
def figB (n : Nat) : UInt8 := UInt8.ofNat (if n < 10 then 48 + n else 87 + n)
theorem figB_get {n : Nat} (h : n < 16) : ([48, 49, 50, 51, 52, 53, 54, 55, 56, 57, 97, 98, 99, 100, 101, 102] : List UInt8).getD n 0 = figB n := by
  have : ∀ m : Fin 16, ([48, 49, 50, 51, 52, 53, 54, 55, 56, 57, 97, 98, 99, 100, 101, 102] : List UInt8).getD m.1 0 = figB m.1 := by decide
  exact this ⟨n, h⟩
theorem figB_at {n : Nat} (h : n < ([48, 49, 50, 51, 52, 53, 54, 55, 56, 57, 97, 98, 99, 100, 101, 102] : List UInt8).length) : ([48, 49, 50, 51, 52, 53, 54, 55, 56, 57, 97, 98, 99, 100, 101, 102] : List UInt8)[n] = figB n := by
  rw [← figB_get h, List.getD_eq_getElem?_getD, List.getElem?_eq_getElem h]
  rfl
def hexL (l : List UInt8) : List UInt8 := l.flatMap fun b => [figB (b.toNat / 16), figB (b.toNat % 16)]
def hexR (l : List UInt8) : List UInt8 := if l.length ≤ 20000 then hexL l else []
theorem hexL_length (l : List UInt8) : (hexL l).length = 2 * l.length := by
  induction l with
  | nil => rfl
  | cons a l ih => simp only [hexL, List.flatMap_cons, List.length_append, List.length_cons, List.length_nil] at ih ⊢; omega
theorem hexL_take {l : List UInt8} {k : Nat} (h : k < l.length) : hexL (l.take (k + 1)) = hexL (l.take k) ++ [figB (l[k].toNat / 16), figB (l[k].toNat % 16)] := by
  rw [List.take_succ_eq_append_getElem h]
  simp only [hexL, List.flatMap_append, List.flatMap_cons, List.flatMap_nil, List.append_nil]
def hexV (b : UInt8) : Int := if 48 ≤ b.toNat ∧ b.toNat ≤ 57 then b.toNat - 48 else if 97 ≤ b.toNat ∧ b.toNat ≤ 102 then b.toNat - 87 else -1
def unhexGo (acc : List UInt8) : List UInt8 → Option (List UInt8)
  | a :: b :: r => if hexV a < 0 ∨ hexV b < 0 then none else unhexGo (acc ++ [UInt8.ofNat (16 * hexV a + hexV b).toNat]) r
  | _ => some acc
def unhexR : Option (List UInt8) → List UInt8 × Bool
  | none => ([], false)
  | some r => (r, true)
def unhex (l : List UInt8) : List UInt8 × Bool := if l.length % 2 ≠ 0 ∨ l.length / 2 > 20000 then ([], false) else unhexR (unhexGo [] l)
def rdGo (acc : Int) : List UInt8 → Option Int
  | [] => some acc
  | b :: r => if b.toNat < 48 ∨ 57 < b.toNat then none else rdGo (10 * acc + b.toNat - 48) r
def readR (l : List UInt8) : Option Int → Int × Bool
  | none => (0, false)
  | some n => if n > 1000000000 ∨ dec n ≠ l then (0, false) else (n, true)
def readDec (l : List UInt8) : Int × Bool := if l.length > 10 then (0, false) else readR l (rdGo 0 l)
def cutGo (y : UInt8) (acc : List (List UInt8)) (cur : List UInt8) : List UInt8 → List (List UInt8)
  | [] => acc ++ [cur]
  | b :: r => if b = y then cutGo y (acc ++ [cur]) [] r else cutGo y acc (cur ++ [b]) r
def cutL (y : UInt8) (l : List UInt8) : List (List UInt8) := cutGo y [] [] l
theorem cutGo_step {y : UInt8} {acc : List (List UInt8)} {cur l : List UInt8} {k : Nat} (h : k < l.length) : cutGo y acc cur (l.drop k) = if l[k] = y then cutGo y (acc ++ [cur]) [] (l.drop (k + 1)) else cutGo y acc (cur ++ [l[k]]) (l.drop (k + 1)) := by
  rw [List.drop_eq_getElem_cons h, cutGo]
def app1 (acc : List (List UInt8)) (cur : List UInt8) : List (List UInt8) := if cur = [] then acc else acc ++ [cur]
def partsGo (acc : List (List UInt8)) (cur : List UInt8) : List UInt8 → Option (List (List UInt8))
  | [] => some (app1 acc cur)
  | b :: r => if b.toNat < 32 ∨ 126 < b.toNat then none else if b = 32 then partsGo (app1 acc cur) [] r else partsGo acc (cur ++ [b]) r
theorem partsGo_step {acc : List (List UInt8)} {cur l : List UInt8} {k : Nat} (h : k < l.length) : partsGo acc cur (l.drop k) = if l[k].toNat < 32 ∨ 126 < l[k].toNat then none else if l[k] = 32 then partsGo (app1 acc cur) [] (l.drop (k + 1)) else partsGo acc (cur ++ [l[k]]) (l.drop (k + 1)) := by
  rw [List.drop_eq_getElem_cons h, partsGo]
def partsR : Option (List (List UInt8)) → List (List UInt8) × Bool
  | none => ([], false)
  | some p => if 12 < p.length then ([], false) else (p, true)
def partsL (l : List UInt8) : List (List UInt8) × Bool := if 600 < l.length then ([], false) else partsR (partsGo [] [] l)
def joinGo (y : List UInt8) (k : Nat) (acc : List UInt8) : List (List UInt8) → List UInt8
  | [] => acc
  | s :: r => joinGo y (k + 1) ((if 0 < k then acc ++ y else acc) ++ s) r
def joinL (y : List UInt8) (l : List (List UInt8)) : List UInt8 := joinGo y 0 [] l
theorem joinGo_step {y acc : List UInt8} {l : List (List UInt8)} {k : Nat} (h : k < l.length) : joinGo y k acc (l.drop k) = joinGo y (k + 1) ((if 0 < k then acc ++ y else acc) ++ l[k]) (l.drop (k + 1)) := by
  rw [List.drop_eq_getElem_cons h, joinGo]
theorem joinGo_le {y : List UInt8} : ∀ {l : List (List UInt8)} {k : Nat} {acc : List UInt8}, acc.length ≤ (joinGo y k acc l).length
  | [], k, acc => Nat.le_refl _
  | s :: r, k, acc => by
    rw [joinGo]
    refine Nat.le_trans ?_ joinGo_le
    split <;> simp <;> omega
theorem app1_pos {acc : List (List UInt8)} {l : List UInt8} {k b : Nat} (hk : k ≤ l.length) (h : b < k) : app1 acc ((l.take k).drop b) = acc ++ [(l.take k).drop b] := by
  rw [app1, if_neg]
  intro e
  have := congrArg List.length e
  simp at this
  omega
theorem app1_neg {acc : List (List UInt8)} {l : List UInt8} {k b : Nat} (h : k ≤ b) : app1 acc ((l.take k).drop b) = acc := by
  rw [app1, if_pos]
  rw [List.drop_eq_nil_of_le]
  simp
  omega
theorem drop_take_self {l : List UInt8} {k b : Nat} (h : k ≤ b) : (l.take k).drop b = [] := by
  rw [List.drop_eq_nil_of_le]
  simp
  omega
theorem dec_le {n : Int} (h : I64 n) : (dec n).length ≤ 21 := by
  have := decGo_20 h
  rw [dec]
  split
  · simp; omega
  · omega
def isN (n : Int) : Bool := decide (0 ≤ n) && decide (n ≤ 1000000000)
def inR (n a b : Int) : Bool := decide (a ≤ n) && decide (n ≤ b)
def letNums (x : LetterD) : List Int := [x.frm, x.to, x.port, x.key, x.token, x.nonce, x.give, x.sgn, x.id, x.addr, x.pos, x.tag.kind, x.tag.one, x.tag.two, x.tag.a, x.tag.b]
def letOk (x : LetterD) : Bool := inR x.kind 1 13 && (letNums x).all isN && decide (x.text.length ≤ 20)
def letInts (x : LetterD) : List Int := [x.kind, x.frm, x.to, x.port, x.key, x.token, x.nonce, x.give, x.sgn, x.tag.kind, x.tag.one, x.tag.two, x.tag.a, x.tag.b, x.id, x.addr, cond x.spare 1 0, x.pos]
def wordGo (acc : List UInt8) : List Int → List UInt8
  | [] => acc
  | n :: r => wordGo (acc ++ (dec n ++ [44])) r
theorem wordGo_step {acc : List UInt8} {l : List Int} {k : Nat} (h : k < l.length) : wordGo acc (l.drop k) = wordGo (acc ++ (dec l[k] ++ [44])) (l.drop (k + 1)) := by
  rw [List.drop_eq_getElem_cons h, wordGo]
def letWord (x : LetterD) : List UInt8 := if letOk x then wordGo [] (letInts x) ++ hexR x.text else []
theorem letInts_wf {x : LetterD} (h : x.wf) : ∀ n ∈ letInts x, I64 n := by
  obtain ⟨h1, h2, h3, h4, h5, h6, h7, h8, h9, h10, h11, h12, h13, h14, h15, h16, h17, _⟩ := h
  intro n hn
  simp only [letInts, List.mem_cons, List.not_mem_nil, or_false] at hn
  rcases hn with rfl | rfl | rfl | rfl | rfl | rfl | rfl | rfl | rfl | rfl | rfl | rfl | rfl | rfl | rfl | rfl | rfl | rfl <;> first | assumption | (cases x.spare <;> decide)
def ptrOf (k : Nat) : List Sc := if k = 16 then [.pt 1 0 0] else [.pt 0 0 k]
def ptrL : List (List Sc) := (List.range 18).map ptrOf
theorem ptrL_eq : ptrL = [[.pt 0 0 0], [.pt 0 0 1], [.pt 0 0 2], [.pt 0 0 3], [.pt 0 0 4], [.pt 0 0 5], [.pt 0 0 6], [.pt 0 0 7], [.pt 0 0 8], [.pt 0 0 9], [.pt 0 0 10], [.pt 0 0 11], [.pt 0 0 12], [.pt 0 0 13], [.pt 0 0 14], [.pt 0 0 15], [.pt 1 0 0], [.pt 0 0 17]] := rfl
theorem ptrL_get {k : Nat} (h : k < 18) : ptrL[k]? = some (ptrOf k) := by simp [ptrL, h]
theorem ptrOf_16 : ptrOf 16 = [.pt 1 0 0] := rfl
theorem ptrOf_ne {k : Nat} (h : k ≠ 16) : ptrOf k = [.pt 0 0 k] := if_neg h
theorem letCell (x : LetterD) {k : Nat} (h : k < (letInts x).length) (h16 : k ≠ 16) : x.cs[k]? = some (.int .i64 (letInts x)[k]) := by
  have h18 : k < 18 := h
  match k, h18, h16 with
  | 0, _, _ | 1, _, _ | 2, _, _ | 3, _, _ | 4, _, _ | 5, _, _ | 6, _, _ | 7, _, _ | 8, _, _ | 9, _, _ | 10, _, _ | 11, _, _ | 12, _, _ | 13, _, _ | 14, _, _ | 15, _, _ | 17, _, _ => rfl
  | 16, _, h => exact absurd rfl h
  | n + 18, h, _ => exact absurd h (by omega)
theorem hexR_le (l : List UInt8) : (hexR l).length ≤ 40000 := by
  rw [hexR]
  split
  · rw [hexL_length]; omega
  · simp
/-- p's line, as its parts. -/
def sameB (a : List UInt8) (parts : List (List UInt8)) : Bool := (partsL a).2 && !(a == []) && joinL [32] (partsL a).1 == joinL [32] parts && (partsL a).1.length == parts.length
def tot (l : List (List UInt8)) : Nat := (l.map List.length).sum
theorem tot_app (l : List (List UInt8)) (c : List UInt8) : tot (l ++ [c]) = tot l + c.length := by simp [tot]
theorem joinGo_len {y : List UInt8} : ∀ {l : List (List UInt8)} {k : Nat} {acc : List UInt8}, (joinGo y k acc l).length ≤ acc.length + tot l + l.length * y.length
  | [], k, acc => by simp [joinGo, tot]
  | s :: r, k, acc => by
    rw [joinGo]
    refine Nat.le_trans joinGo_len ?_
    simp only [tot, List.map_cons, List.sum_cons, List.length_cons, List.length_append, Nat.add_mul, Nat.one_mul]
    split <;> (try simp only [List.length_append]) <;> omega
theorem joinL_len {y : List UInt8} {l : List (List UInt8)} : (joinL y l).length ≤ tot l + l.length * y.length := by
  have := joinGo_len (y := y) (l := l) (k := 0) (acc := [])
  simpa [joinL] using this
theorem app1_tot (acc : List (List UInt8)) (cur : List UInt8) : tot (app1 acc cur) ≤ tot acc + cur.length := by
  rw [app1]
  split
  · omega
  · rw [tot_app]; omega
theorem partsGo_tot : ∀ {l : List UInt8} {acc : List (List UInt8)} {cur : List UInt8} {p : List (List UInt8)}, partsGo acc cur l = some p → tot p ≤ tot acc + cur.length + l.length
  | [], acc, cur, p, h => by
    simp only [partsGo, Option.some.injEq] at h
    subst h
    have := app1_tot acc cur
    simpa using this
  | b :: r, acc, cur, p, h => by
    rw [partsGo] at h
    split at h
    · cases h
    · split at h
      · have := partsGo_tot h
        have h2 := app1_tot acc cur
        simp only [List.length_nil, List.length_cons] at this ⊢
        omega
      · have := partsGo_tot h
        simp only [List.length_append, List.length_cons, List.length_nil] at this ⊢
        omega
theorem partsL_tot (a : List UInt8) : tot (partsL a).1 ≤ 600 ∧ (partsL a).1.length ≤ 12 := by
  rw [partsL]
  split
  · simp [tot]
  · cases h : partsGo [] [] a with
    | none => simp [partsR, tot]
    | some p =>
      have := partsGo_tot h
      rw [partsR]
      split
      · simp [tot]
      · simp [tot] at this ⊢
        omega
theorem partsL_join (a : List UInt8) : (joinL [32] (partsL a).1).length ≤ 612 := by
  have := joinL_len (y := [32]) (l := (partsL a).1)
  obtain ⟨h1, h2⟩ := partsL_tot a
  simp only [List.length_singleton, Nat.mul_one] at this
  omega
def Clean (l : List (List UInt8)) : Prop := ∀ s ∈ l, s ≠ [] ∧ ∀ b ∈ s, 32 < b.toNat ∧ b.toNat ≤ 126
theorem partsGo_clean : ∀ {l : List UInt8} {acc : List (List UInt8)} {cur : List UInt8} {p : List (List UInt8)}, Clean acc → (∀ b ∈ cur, 32 < b.toNat ∧ b.toNat ≤ 126) → partsGo acc cur l = some p → Clean p
  | [], acc, cur, p, ha, hc, h => by
    simp only [partsGo, Option.some.injEq] at h
    subst h
    rw [app1]
    split
    · exact ha
    · rename_i hne
      intro s hs
      rcases List.mem_append.1 hs with hs | hs
      · exact ha s hs
      · simp at hs; subst hs; exact ⟨hne, hc⟩
  | b :: r, acc, cur, p, ha, hc, h => by
    rw [partsGo] at h
    split at h
    · cases h
    · rename_i hb
      split at h
      · refine partsGo_clean ?_ (by simp) h
        rw [app1]
        split
        · exact ha
        · rename_i hne
          intro s hs
          rcases List.mem_append.1 hs with hs | hs
          · exact ha s hs
          · simp at hs; subst hs; exact ⟨hne, hc⟩
      · rename_i h32
        refine partsGo_clean ha (fun x hx => ?_) h
        rcases List.mem_append.1 hx with hx | hx
        · exact hc x hx
        · simp at hx; subst hx
          have : x.toNat ≠ 32 := fun e => h32 (UInt8.toNat_inj.1 e)
          omega
theorem partsL_clean (a : List UInt8) : Clean (partsL a).1 := by
  rw [partsL]
  split
  · intro s hs; simp at hs
  · cases h : partsGo [] [] a with
    | none => intro s hs; simp [partsR] at hs
    | some p =>
      rw [partsR]
      split
      · intro s hs; simp at hs
      · exact partsGo_clean (fun s hs => by simp at hs) (by simp) h
theorem partsGo_word : ∀ {s r cur : List UInt8} {acc : List (List UInt8)}, (∀ b ∈ s, 32 < b.toNat ∧ b.toNat ≤ 126) → partsGo acc cur (s ++ r) = partsGo acc (cur ++ s) r
  | [], r, cur, acc, _ => by simp
  | b :: s, r, cur, acc, h => by
    have hb := h b (by simp)
    have h32 : b ≠ 32 := fun e => by subst e; exact absurd hb.1 (by decide)
    rw [List.cons_append, partsGo, if_neg (by omega), if_neg h32, partsGo_word (fun x hx => h x (by simp [hx]))]
    simp
theorem joinGo_pos {y : List UInt8} : ∀ {l : List (List UInt8)} {k : Nat} {acc : List UInt8}, 0 < k → joinGo y k acc l = acc ++ l.flatMap (y ++ ·)
  | [], k, acc, _ => by simp [joinGo]
  | s :: r, k, acc, h => by
    rw [joinGo, if_pos h, joinGo_pos (by omega)]
    simp
theorem joinL_cons {y s : List UInt8} {r : List (List UInt8)} : joinL y (s :: r) = s ++ r.flatMap (y ++ ·) := by
  rw [joinL, joinGo, joinGo_pos (by omega)]
  simp
theorem partsGo_rest : ∀ {r : List (List UInt8)} {acc : List (List UInt8)} {cur : List UInt8}, cur ≠ [] → Clean r → partsGo acc cur (r.flatMap ([32] ++ ·)) = some (acc ++ cur :: r)
  | [], acc, cur, h, _ => by simp [partsGo, app1, h]
  | s :: r, acc, cur, h, hr => by
    obtain ⟨h1, h2⟩ := hr s (by simp)
    rw [List.flatMap_cons, List.append_assoc, List.singleton_append, partsGo, if_neg (by decide), if_pos rfl, app1, if_neg h, partsGo_word h2, partsGo_rest (by simpa using h1) (fun x hx => hr x (by simp [hx]))]
    simp
/-- The parts of a joined list. -/
theorem parts_join {l : List (List UInt8)} (h : Clean l) : partsGo [] [] (joinL [32] l) = some l := by
  cases l with
  | nil => simp [joinL, joinGo, partsGo, app1]
  | cons s r =>
    obtain ⟨h1, h2⟩ := h s (by simp)
    rw [joinL_cons, partsGo_word h2, partsGo_rest (by simpa using h1) (fun x hx => h x (by simp [hx]))]
    simp
theorem join_inj {l m : List (List UInt8)} (hl : Clean l) (hm : Clean m) (h : joinL [32] l = joinL [32] m) : l = m := by
  have h1 := parts_join hl
  rw [h, parts_join hm] at h1
  simpa using h1.symm
def numAt (l : List (List UInt8)) (n : Nat) : Int := if h : n < l.length then (readDec l[n]).1 else 0
theorem rdGo_nn : ∀ {l : List UInt8} {a n : Int}, 0 ≤ a → rdGo a l = some n → 0 ≤ n
  | [], a, n, h, h1 => by simp [rdGo] at h1; omega
  | b :: r, a, n, h, h1 => by
    rw [rdGo] at h1
    split at h1
    · cases h1
    · exact rdGo_nn (by omega) h1
theorem readDec_wf (l : List UInt8) : I64 (readDec l).1 := by
  rw [readDec]
  split
  · exact ⟨by decide, by decide⟩
  · cases h : rdGo 0 l with
    | none => exact ⟨by show (-9223372036854775808 : Int) ≤ 0; decide, by show (0 : Int) ≤ 9223372036854775807; decide⟩
    | some n =>
      have := rdGo_nn (Int.le_refl 0) h
      rw [readR]
      split
      · exact ⟨by decide, by decide⟩
      · exact ⟨by show -9223372036854775808 ≤ n; omega, by show n ≤ 9223372036854775807; omega⟩
end
section
open Go.RowKit
set_option linter.unusedVariables false
set_option linter.unusedSimpArgs false
set_option maxRecDepth 10000

theorem impl_within (n a b : Int) : CallA Tryd.prog 63 [.sc (.int .i64 n), .sc (.int .i64 a), .sc (.int .i64 b)] [] (.sc (.bo (inR n a b))) [] := by
  refine callA_of Tryd.func63 (by kernel_rfl) rfl fun E hE => run_den 400 ?_
  simp (disch := omega) only [Tryd.ntmps63, Tryd.results63, go_sem, Nat.reduceEqDiff, Nat.reduceAdd, Nat.reduceSub, Int.reduceAdd, Int.reduceSub, Int.reduceToNat]
  split <;> rename_i h <;> (try simp only [beq_true, beq_false, Bool.not_eq_true', Bool.not_eq_false'] at h) <;> simp (disch := omega) only [go_sem, Nat.reduceEqDiff, Nat.reduceAdd, Nat.reduceSub, Int.reduceAdd, Int.reduceSub, Int.reduceToNat, h] <;> (try simp only [decide_eq_true_eq, decide_eq_false_iff_not, beq_iff_eq, beq_eq_false_iff_ne, bne_iff_ne, bne_eq_false_iff_eq, ne_eq, Decidable.not_not, Bool.and_eq_true, Bool.and_eq_false_iff, Bool.or_eq_true, Bool.or_eq_false_iff, Int.ofNat_lt, Int.ofNat_le, Bool.not_eq_eq_eq_not, Bool.not_true, Bool.not_false] at h) <;> try simp (disch := omega) only [go_sem, Nat.reduceEqDiff, Nat.reduceAdd, Nat.reduceSub, Int.reduceAdd, Int.reduceSub, Int.reduceToNat]
  · refine den_fin [] (trivial) _ (by simp only [go_sem]; rfl) (by rfl) (by rfl) ?_
    simp (disch := omega) only [go_sem, Nat.reduceEqDiff, Nat.reduceAdd, Nat.reduceSub, Int.reduceAdd, Int.reduceSub, Int.reduceToNat]
    simp [inR, h]
  · refine den_fin [] (trivial) _ (by simp only [go_sem]; rfl) (by rfl) (by rfl) ?_
    simp (disch := omega) only [go_sem, Nat.reduceEqDiff, Nat.reduceAdd, Nat.reduceSub, Int.reduceAdd, Int.reduceSub, Int.reduceToNat]
    simp [inR, h]
theorem spec_l01In (n a b : Int) : CallA Tryd.prog 38 [.sc (.int .i64 n), .sc (.int .i64 a), .sc (.int .i64 b)] [] (.sc (.bo (inR n a b))) [] := by
  refine callA_of Tryd.func38 (by kernel_rfl) rfl fun E hE => run_den 400 ?_
  simp (disch := omega) only [Tryd.ntmps38, Tryd.results38, go_sem, Nat.reduceEqDiff, Nat.reduceAdd, Nat.reduceSub, Int.reduceAdd, Int.reduceSub, Int.reduceToNat]
  split <;> rename_i h <;> (try simp only [beq_true, beq_false, Bool.not_eq_true', Bool.not_eq_false'] at h) <;> simp (disch := omega) only [go_sem, Nat.reduceEqDiff, Nat.reduceAdd, Nat.reduceSub, Int.reduceAdd, Int.reduceSub, Int.reduceToNat, h] <;> (try simp only [decide_eq_true_eq, decide_eq_false_iff_not, beq_iff_eq, beq_eq_false_iff_ne, bne_iff_ne, bne_eq_false_iff_eq, ne_eq, Decidable.not_not, Bool.and_eq_true, Bool.and_eq_false_iff, Bool.or_eq_true, Bool.or_eq_false_iff, Int.ofNat_lt, Int.ofNat_le, Bool.not_eq_eq_eq_not, Bool.not_true, Bool.not_false] at h) <;> try simp (disch := omega) only [go_sem, Nat.reduceEqDiff, Nat.reduceAdd, Nat.reduceSub, Int.reduceAdd, Int.reduceSub, Int.reduceToNat]
  · refine den_fin [] (trivial) _ (by simp only [go_sem]; rfl) (by rfl) (by rfl) ?_
    simp (disch := omega) only [go_sem, Nat.reduceEqDiff, Nat.reduceAdd, Nat.reduceSub, Int.reduceAdd, Int.reduceSub, Int.reduceToNat]
    simp [inR, h]
  · refine den_fin [] (trivial) _ (by simp only [go_sem]; rfl) (by rfl) (by rfl) ?_
    simp (disch := omega) only [go_sem, Nat.reduceEqDiff, Nat.reduceAdd, Nat.reduceSub, Int.reduceAdd, Int.reduceSub, Int.reduceToNat]
    simp [inR, h]
theorem spec_l14Num (n : Int) : CallA Tryd.prog 29 [.sc (.int .i64 n)] [] (.sc (.bo (isN n))) [] := by
  refine callA_of Tryd.func29 (by kernel_rfl) rfl fun E hE => run_den 400 ?_
  simp (disch := omega) only [Tryd.ntmps29, Tryd.results29, go_sem, Nat.reduceEqDiff, Nat.reduceAdd, Nat.reduceSub, Int.reduceAdd, Int.reduceSub, Int.reduceToNat]
  refine den_call (trivial) (spec_l01In _ _ _) [] (by simp only [go_sem]; repeat' first | rfl | constructor) (by rfl) (run_den 400 ?_)
  simp (disch := omega) only [go_sem, Nat.reduceEqDiff, Nat.reduceAdd, Nat.reduceSub, Int.reduceAdd, Int.reduceSub, Int.reduceToNat]
  refine den_fin [] (trivial) _ (by simp only [go_sem]; rfl) (by rfl) (by rfl) ?_
  simp (disch := omega) only [go_sem, Nat.reduceEqDiff, Nat.reduceAdd, Nat.reduceSub, Int.reduceAdd, Int.reduceSub, Int.reduceToNat]
  rfl
theorem impl_isNumber (l : List Int) (hl : l.length ≤ 1000000) : CallA Tryd.prog 64 [.sc (.sl 0 0 l.length)] [some ⟨l.map intC, 1, 3, false, true⟩] (.sc (.bo (l.all isN))) [some ⟨l.map intC, 1, 3, false, true⟩] := by
  refine callA_of Tryd.func64 (by kernel_rfl) rfl fun E hE => run_den 400 ?_
  simp (disch := omega) only [Tryd.ntmps64, Tryd.results64, go_sem, Nat.reduceEqDiff, Nat.reduceAdd, Nat.reduceSub, Int.reduceAdd, Int.reduceSub, Int.reduceToNat]
  refine den_lp 1 hE (fun s k => s.at [4, 8, 9, 10, 11, 12, 13, 14] [(7, .sc (.int .i64 (k : Nat)))] s.hp) (fun k => k ≤ l.length ∧ l.all isN = (l.drop k).all isN) (fun k => l.length - k) 0 [some (0, none)] trivial ⟨Nat.zero_le _, by simp⟩ (weak_mk (by rfl) (by rfl) ?_) fun k hk N hN => ?_
  · try simp (disch := omega) only [go_sem, Nat.reduceEqDiff, Nat.reduceAdd, Nat.reduceSub, Int.reduceAdd, Int.reduceSub, Int.reduceToNat]
  · obtain ⟨hk1, hk2⟩ := hk
    refine run_den 100 ?_
    try simp (disch := omega) only [go_sem, Nat.reduceEqDiff, Nat.reduceAdd, Nat.reduceSub, Int.reduceAdd, Int.reduceSub, Int.reduceToNat]
    split <;> rename_i h <;> (try simp only [beq_true, beq_false, Bool.not_eq_true', Bool.not_eq_false'] at h) <;> simp (disch := omega) only [go_sem, Nat.reduceEqDiff, Nat.reduceAdd, Nat.reduceSub, Int.reduceAdd, Int.reduceSub, Int.reduceToNat, h] <;> (try simp only [decide_eq_true_eq, decide_eq_false_iff_not, beq_iff_eq, beq_eq_false_iff_ne, bne_iff_ne, bne_eq_false_iff_eq, ne_eq, Decidable.not_not, Bool.and_eq_true, Bool.and_eq_false_iff, Bool.or_eq_true, Bool.or_eq_false_iff, Int.ofNat_lt, Int.ofNat_le, Bool.not_eq_eq_eq_not, Bool.not_true, Bool.not_false] at h) <;> try simp (disch := omega) only [go_sem, Nat.reduceEqDiff, Nat.reduceAdd, Nat.reduceSub, Int.reduceAdd, Int.reduceSub, Int.reduceToNat]
    · try simp (disch := omega) only [go_sem, Nat.reduceEqDiff, Nat.reduceAdd, Nat.reduceSub, Int.reduceAdd, Int.reduceSub, Int.reduceToNat, ints_get h]
      refine den_call (by omega) (impl_within _ _ _) [] (by simp only [go_sem]; repeat' first | rfl | constructor) (by rfl) (run_den 400 ?_)
      simp (disch := omega) only [go_sem, Nat.reduceEqDiff, Nat.reduceAdd, Nat.reduceSub, Int.reduceAdd, Int.reduceSub, Int.reduceToNat]
      rw [List.drop_eq_getElem_cons h, List.all_cons] at hk2
      split <;> rename_i h2 <;> (try simp only [beq_true, beq_false, Bool.not_eq_true', Bool.not_eq_false'] at h2) <;> simp (disch := omega) only [go_sem, Nat.reduceEqDiff, Nat.reduceAdd, Nat.reduceSub, Int.reduceAdd, Int.reduceSub, Int.reduceToNat, h2] <;> (try simp only [decide_eq_true_eq, decide_eq_false_iff_not, beq_iff_eq, beq_eq_false_iff_ne, bne_iff_ne, bne_eq_false_iff_eq, ne_eq, Decidable.not_not, Bool.and_eq_true, Bool.and_eq_false_iff, Bool.or_eq_true, Bool.or_eq_false_iff, Int.ofNat_lt, Int.ofNat_le, Bool.not_eq_eq_eq_not, Bool.not_true, Bool.not_false] at h2) <;> try simp (disch := omega) only [go_sem, Nat.reduceEqDiff, Nat.reduceAdd, Nat.reduceSub, Int.reduceAdd, Int.reduceSub, Int.reduceToNat]
      · refine den_fin [some (0, none)] (trivial) _ (by simp only [go_sem]; rfl) (by rfl) (by rfl) ?_
        simp (disch := omega) only [go_sem, Nat.reduceEqDiff, Nat.reduceAdd, Nat.reduceSub, Int.reduceAdd, Int.reduceSub, Int.reduceToNat]
        have : isN l[k] = false := by simp [isN, inR] at h2 ⊢; omega
        rw [hk2, this, Bool.false_and]
      · refine ⟨trivial, hN _ (k + 1) [some (0, none)] (⟨by omega, ?_⟩) (by (try dsimp only); omega) (weak_mk (by rfl) (by rfl) ?_)⟩
        · have : isN l[k] = true := by simp [isN, inR] at h2 ⊢; omega
          rw [hk2, this, Bool.true_and]
        · try simp (disch := omega) only [go_sem, Nat.reduceEqDiff, Nat.reduceAdd, Nat.reduceSub, Int.reduceAdd, Int.reduceSub, Int.reduceToNat]
    · refine den_fin [some (0, none)] (trivial) _ (by simp only [go_sem]; rfl) (by rfl) (by rfl) ?_
      simp (disch := omega) only [go_sem, Nat.reduceEqDiff, Nat.reduceAdd, Nat.reduceSub, Int.reduceAdd, Int.reduceSub, Int.reduceToNat]
      rw [hk2, List.drop_eq_nil_of_le (by omega), List.all_nil]
end
section
open Go.RowKit
set_option linter.unusedVariables false
set_option linter.unusedSimpArgs false
set_option maxRecDepth 10000

theorem impl_bit (b : Bool) : CallA Tryd.prog 51 [.sc (.bo b)] [] (.sc (.int .i64 (cond b 1 0))) [] := by
  refine callA_of Tryd.func51 (by kernel_rfl) rfl fun E hE => run_den 400 ?_
  simp (disch := omega) only [Tryd.ntmps51, Tryd.results51, go_sem, Nat.reduceEqDiff, Nat.reduceAdd, Nat.reduceSub, Int.reduceAdd, Int.reduceSub, Int.reduceToNat]
  cases b
  · try simp (disch := omega) only [go_sem, Nat.reduceEqDiff, Nat.reduceAdd, Nat.reduceSub, Int.reduceAdd, Int.reduceSub, Int.reduceToNat]
    refine den_fin [] (trivial) _ (by simp only [go_sem]; rfl) (by rfl) (by rfl) ?_
    simp (disch := omega) only [go_sem, Nat.reduceEqDiff, Nat.reduceAdd, Nat.reduceSub, Int.reduceAdd, Int.reduceSub, Int.reduceToNat]
    rfl
  · try simp (disch := omega) only [go_sem, Nat.reduceEqDiff, Nat.reduceAdd, Nat.reduceSub, Int.reduceAdd, Int.reduceSub, Int.reduceToNat]
    refine den_fin [] (trivial) _ (by simp only [go_sem]; rfl) (by rfl) (by rfl) ?_
    simp (disch := omega) only [go_sem, Nat.reduceEqDiff, Nat.reduceAdd, Nat.reduceSub, Int.reduceAdd, Int.reduceSub, Int.reduceToNat]
    rfl
theorem spec_l28Flag (b : Bool) : CallA Tryd.prog 30 [.sc (.bo b)] [] (.sc (.int .i64 (cond b 1 0))) [] := by
  refine callA_of Tryd.func30 (by kernel_rfl) rfl fun E hE => run_den 400 ?_
  simp (disch := omega) only [Tryd.ntmps30, Tryd.results30, go_sem, Nat.reduceEqDiff, Nat.reduceAdd, Nat.reduceSub, Int.reduceAdd, Int.reduceSub, Int.reduceToNat]
  cases b
  · try simp (disch := omega) only [go_sem, Nat.reduceEqDiff, Nat.reduceAdd, Nat.reduceSub, Int.reduceAdd, Int.reduceSub, Int.reduceToNat]
    refine den_fin [] (trivial) _ (by simp only [go_sem]; rfl) (by rfl) (by rfl) ?_
    simp (disch := omega) only [go_sem, Nat.reduceEqDiff, Nat.reduceAdd, Nat.reduceSub, Int.reduceAdd, Int.reduceSub, Int.reduceToNat]
    rfl
  · try simp (disch := omega) only [go_sem, Nat.reduceEqDiff, Nat.reduceAdd, Nat.reduceSub, Int.reduceAdd, Int.reduceSub, Int.reduceToNat]
    refine den_fin [] (trivial) _ (by simp only [go_sem]; rfl) (by rfl) (by rfl) ?_
    simp (disch := omega) only [go_sem, Nat.reduceEqDiff, Nat.reduceAdd, Nat.reduceSub, Int.reduceAdd, Int.reduceSub, Int.reduceToNat]
    rfl
def figI (n : Int) : Int := if n < 10 then 48 + n else 87 + n
theorem spec_l01Figure (n : Int) (h0 : 0 ≤ n) (h : n < 16) : CallA Tryd.prog 61 [.sc (.int .i64 n)] [] (.sc (.int .u8 (figI n))) [] := by
  refine callA_of Tryd.func61 (by kernel_rfl) rfl fun E hE => run_den 400 ?_
  simp (disch := omega) only [Tryd.ntmps61, Tryd.results61, go_sem, Nat.reduceEqDiff, Nat.reduceAdd, Nat.reduceSub, Int.reduceAdd, Int.reduceSub, Int.reduceToNat]
  split <;> rename_i h2 <;> (try simp only [beq_true, beq_false, Bool.not_eq_true', Bool.not_eq_false'] at h2) <;> simp (disch := omega) only [go_sem, Nat.reduceEqDiff, Nat.reduceAdd, Nat.reduceSub, Int.reduceAdd, Int.reduceSub, Int.reduceToNat, h2] <;> (try simp only [decide_eq_true_eq, decide_eq_false_iff_not, beq_iff_eq, beq_eq_false_iff_ne, bne_iff_ne, bne_eq_false_iff_eq, ne_eq, Decidable.not_not, Bool.and_eq_true, Bool.and_eq_false_iff, Bool.or_eq_true, Bool.or_eq_false_iff, Int.ofNat_lt, Int.ofNat_le, Bool.not_eq_eq_eq_not, Bool.not_true, Bool.not_false] at h2) <;> try simp (disch := omega) only [go_sem, Nat.reduceEqDiff, Nat.reduceAdd, Nat.reduceSub, Int.reduceAdd, Int.reduceSub, Int.reduceToNat]
  · try simp (disch := omega) only [go_sem, Nat.reduceEqDiff, Nat.reduceAdd, Nat.reduceSub, Int.reduceAdd, Int.reduceSub, Int.reduceToNat]
    refine den_fin [] (trivial) _ (by simp only [go_sem]; rfl) (by rfl) (by rfl) ?_
    simp (disch := omega) only [go_sem, Nat.reduceEqDiff, Nat.reduceAdd, Nat.reduceSub, Int.reduceAdd, Int.reduceSub, Int.reduceToNat]
    simp [figI, h2]
  · try simp (disch := omega) only [go_sem, Nat.reduceEqDiff, Nat.reduceAdd, Nat.reduceSub, Int.reduceAdd, Int.reduceSub, Int.reduceToNat]
    refine den_fin [] (trivial) _ (by simp only [go_sem]; rfl) (by rfl) (by rfl) ?_
    simp (disch := omega) only [go_sem, Nat.reduceEqDiff, Nat.reduceAdd, Nat.reduceSub, Int.reduceAdd, Int.reduceSub, Int.reduceToNat]
    simp [figI, h2]
    omega
theorem tmod10 (m : Int) : ∃ z, m.tmod 10 = z ∧ z.natAbs = m.natAbs % 10 := ⟨_, rfl, by rw [Int.natAbs_tmod]; rfl⟩
theorem tdiv10 (m : Int) : ∃ z, m.tdiv 10 = z ∧ z.natAbs = m.natAbs / 10 := ⟨_, rfl, by rw [Int.natAbs_tdiv]; rfl⟩
theorem byteC_ofNat {n : Nat} {z : Int} (h : z = n) (hn : n < 256) : byteC (UInt8.ofNat n) = [.int .u8 z] := by
  subst h
  simp [byteC]
  omega
theorem impl_Decimal (n : Int) (hn : I64 n) : CallA Tryd.prog 53 [.sc (.int .i64 n)] [] (.sc (.st (dec n))) [] := by
  refine callA_of Tryd.func53 (by kernel_rfl) rfl fun E hE => run_den 400 ?_
  simp (disch := omega) only [Tryd.ntmps53, Tryd.results53, go_sem, Nat.reduceEqDiff, Nat.reduceAdd, Nat.reduceSub, Int.reduceAdd, Int.reduceSub, Int.reduceToNat]
  refine den_lp 0 hE (fun s (x : Int × List UInt8) => s.at [5, 6, 7, 8, 9, 10, 11, 12, 13, 14, 15, 16, 17, 18, 19, 20, 21, 22, 23] [(0, .sc (.int .i64 x.1)), (3, .sc (.sl 0 0 x.2.length))] ([some ⟨x.2.map byteC, 1, 5, true, true⟩])) (fun (x : Int × List UInt8) => I64 x.1 ∧ decGo x.1.natAbs x.2 = decGo n.natAbs []) (fun (x : Int × List UInt8) => x.1.natAbs) (n, []) [none] (trivial) (⟨hn, rfl⟩) (weak_mk (by rfl) (by rfl) ?_) fun x hx N hN => ?_
  · try simp (disch := omega) only [go_sem, Nat.reduceEqDiff, Nat.reduceAdd, Nat.reduceSub, Int.reduceAdd, Int.reduceSub, Int.reduceToNat]
  · obtain ⟨m, acc⟩ := x
    obtain ⟨hm, hx⟩ := hx
    dsimp only at hm hx
    obtain ⟨z, hz, hz2⟩ := tmod10 m
    obtain ⟨t, ht, ht2⟩ := tdiv10 m
    have hm' : -9223372036854775808 ≤ m ∧ m ≤ 9223372036854775807 := hm
    have hlen := decGo_lt m.natAbs acc
    rw [hx] at hlen
    have hlen2 := decGo_20 hn
    have hb : ∀ d : Int, d = (m.natAbs % 10 : Nat) → [Sc.int .u8 (48 + d)] = byteC (UInt8.ofNat (48 + m.natAbs % 10)) := fun d hd => (byteC_ofNat (by omega) (by omega)).symm
    refine run_den 400 ?_
    try simp (disch := omega) only [go_sem, Nat.reduceEqDiff, Nat.reduceAdd, Nat.reduceSub, Int.reduceAdd, Int.reduceSub, Int.reduceToNat, hz]
    split <;> rename_i h <;> (try simp only [beq_true, beq_false, Bool.not_eq_true', Bool.not_eq_false'] at h) <;> simp (disch := omega) only [go_sem, Nat.reduceEqDiff, Nat.reduceAdd, Nat.reduceSub, Int.reduceAdd, Int.reduceSub, Int.reduceToNat, h] <;> (try simp only [decide_eq_true_eq, decide_eq_false_iff_not, beq_iff_eq, beq_eq_false_iff_ne, bne_iff_ne, bne_eq_false_iff_eq, ne_eq, Decidable.not_not, Bool.and_eq_true, Bool.and_eq_false_iff, Bool.or_eq_true, Bool.or_eq_false_iff, Int.ofNat_lt, Int.ofNat_le, Bool.not_eq_eq_eq_not, Bool.not_true, Bool.not_false] at h) <;> try simp (disch := omega) only [go_sem, Nat.reduceEqDiff, Nat.reduceAdd, Nat.reduceSub, Int.reduceAdd, Int.reduceSub, Int.reduceToNat]
    all_goals
      try simp (disch := omega) only [go_sem, Nat.reduceEqDiff, Nat.reduceAdd, Nat.reduceSub, Int.reduceAdd, Int.reduceSub, Int.reduceToNat, hz, ht]
      split <;> rename_i h2 <;> (try simp only [beq_true, beq_false, Bool.not_eq_true', Bool.not_eq_false'] at h2) <;> simp (disch := omega) only [go_sem, Nat.reduceEqDiff, Nat.reduceAdd, Nat.reduceSub, Int.reduceAdd, Int.reduceSub, Int.reduceToNat, h2] <;> (try simp only [decide_eq_true_eq, decide_eq_false_iff_not, beq_iff_eq, beq_eq_false_iff_ne, bne_iff_ne, bne_eq_false_iff_eq, ne_eq, Decidable.not_not, Bool.and_eq_true, Bool.and_eq_false_iff, Bool.or_eq_true, Bool.or_eq_false_iff, Int.ofNat_lt, Int.ofNat_le, Bool.not_eq_eq_eq_not, Bool.not_true, Bool.not_false] at h2) <;> try simp (disch := omega) only [go_sem, Nat.reduceEqDiff, Nat.reduceAdd, Nat.reduceSub, Int.reduceAdd, Int.reduceSub, Int.reduceToNat]
      · rw [decGo, dif_pos (by omega)] at hx
        rw [Nat.mod_eq_of_lt (by omega)] at hb
        try simp (disch := omega) only [go_sem, Nat.reduceEqDiff, Nat.reduceAdd, Nat.reduceSub, Int.reduceAdd, Int.reduceSub, Int.reduceToNat]
        split <;> rename_i h3 <;> (try simp only [beq_true, beq_false, Bool.not_eq_true', Bool.not_eq_false'] at h3) <;> simp (disch := omega) only [go_sem, Nat.reduceEqDiff, Nat.reduceAdd, Nat.reduceSub, Int.reduceAdd, Int.reduceSub, Int.reduceToNat, h3] <;> (try simp only [decide_eq_true_eq, decide_eq_false_iff_not, beq_iff_eq, beq_eq_false_iff_ne, bne_iff_ne, bne_eq_false_iff_eq, ne_eq, Decidable.not_not, Bool.and_eq_true, Bool.and_eq_false_iff, Bool.or_eq_true, Bool.or_eq_false_iff, Int.ofNat_lt, Int.ofNat_le, Bool.not_eq_eq_eq_not, Bool.not_true, Bool.not_false] at h3) <;> try simp (disch := omega) only [go_sem, Nat.reduceEqDiff, Nat.reduceAdd, Nat.reduceSub, Int.reduceAdd, Int.reduceSub, Int.reduceToNat]
        · try simp (disch := omega) only [go_sem, Nat.reduceEqDiff, Nat.reduceAdd, Nat.reduceSub, Int.reduceAdd, Int.reduceSub, Int.reduceToNat]
          refine den_fin [] (by (try simp (disch := omega) only [go_sem, Nat.reduceEqDiff, Nat.reduceAdd, Nat.reduceSub, Int.reduceAdd, Int.reduceSub, Int.reduceToNat, hb]) <;> omega) _ (by simp only [go_sem]; rfl) (by rfl) (by rfl) ?_
          simp (disch := omega) only [go_sem, Nat.reduceEqDiff, Nat.reduceAdd, Nat.reduceSub, Int.reduceAdd, Int.reduceSub, Int.reduceToNat]
          try simp (disch := omega) only [go_sem, Nat.reduceEqDiff, Nat.reduceAdd, Nat.reduceSub, Int.reduceAdd, Int.reduceSub, Int.reduceToNat, hb]
          rw [dec, if_pos h3, ← hx]
        · try simp (disch := omega) only [go_sem, Nat.reduceEqDiff, Nat.reduceAdd, Nat.reduceSub, Int.reduceAdd, Int.reduceSub, Int.reduceToNat]
          refine den_fin [] (by (try simp (disch := omega) only [go_sem, Nat.reduceEqDiff, Nat.reduceAdd, Nat.reduceSub, Int.reduceAdd, Int.reduceSub, Int.reduceToNat, hb]) <;> omega) _ (by simp only [go_sem]; rfl) (by rfl) (by rfl) ?_
          simp (disch := omega) only [go_sem, Nat.reduceEqDiff, Nat.reduceAdd, Nat.reduceSub, Int.reduceAdd, Int.reduceSub, Int.reduceToNat]
          try simp (disch := omega) only [go_sem, Nat.reduceEqDiff, Nat.reduceAdd, Nat.reduceSub, Int.reduceAdd, Int.reduceSub, Int.reduceToNat, hb]
          rw [dec, if_neg h3, ← hx]
      · rw [decGo, dif_neg (by omega)] at hx
        try simp (disch := omega) only [go_sem, Nat.reduceEqDiff, Nat.reduceAdd, Nat.reduceSub, Int.reduceAdd, Int.reduceSub, Int.reduceToNat]
        refine ⟨by omega, hN _ (t, UInt8.ofNat (48 + m.natAbs % 10) :: acc) [some (2, none)] (by (try dsimp only); exact ⟨by omega, by rw [ht2]; exact hx⟩) (by (try dsimp only); omega) (weak_mk (by rfl) (by rfl) ?_)⟩
        try simp (disch := omega) only [go_sem, Nat.reduceEqDiff, Nat.reduceAdd, Nat.reduceSub, Int.reduceAdd, Int.reduceSub, Int.reduceToNat, hb]
        omega
end
end Go.Proofs.YtndkcflepjinaaaDoor
