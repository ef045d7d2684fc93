/-
  VX, part 12: a call by a contract over its own small heap; a whole function.
-/
import Derived.Test.YtoghbjbfldlfpaaGreatVx11
namespace Go.Proofs.YtoghbjbfldlfpaaGreat
open Go.RowKit
set_option linter.unusedVariables false
set_option linter.unusedSimpArgs false

/-- Where a name of the callee's lies with the caller, who had N objects. -/
def nameAt (ρ : Rho) (N o : Nat) : Option (Nat × Option Nat) := if o < ρ.length then ρ.at o else some (N + (o - ρ.length), none)
def renSc (ρ : Rho) (N : Nat) : Sc → Sc
  | .sl o off len => match nameAt ρ N o with
    | some (n, none) => .sl n off len
    | some (n, some d) => .sl n (off + d) len
    | none => .nil
  | .pt o k j => match nameAt ρ N o with
    | some (n, none) => .pt n k j
    | some (n, some d) => .pt n (k + d) j
    | none => .nil
  | .int k n => .int k n
  | .bo b => .bo b
  | .st l => .st l
  | .nil => .nil
  | .un => .un
def renC (ρ : Rho) (N : Nat) : List Sc → List Sc
  | [] => []
  | a :: l => renSc ρ N a :: renC ρ N l
def renCo (ρ : Rho) (N : Nat) : Co → Co
  | .sc a => .sc (renSc ρ N a)
  | .ag l => .ag (renC ρ N l)
def renTu (ρ : Rho) (N : Nat) : List Co → List Co
  | [] => []
  | a :: l => renCo ρ N a :: renTu ρ N l
def renAV (ρ : Rho) (N : Nat) : AV → AV
  | .sc a => .sc (renSc ρ N a)
  | .ag l => .ag (renC ρ N l)
  | .tu l => .tu (renTu ρ N l)
  | .cl f l => .cl f (renC ρ N l)
def renCs (ρ : Rho) (N : Nat) : List (List Sc) → List (List Sc)
  | [] => []
  | a :: l => renC ρ N a :: renCs ρ N l
def renOb (ρ : Rho) (N : Nat) (ob : AObj) : AObj :=
  match ob.fl with
  | true => ob
  | false => { ob with cs := renCs ρ N ob.cs }
def renHp (ρ : Rho) (N : Nat) : Hp → Hp
  | [] => []
  | none :: h => none :: renHp ρ N h
  | some ob :: h => some (renOb ρ N ob) :: renHp ρ N h
def optOb (ρ : Rho) (N : Nat) : Option AObj → Option AObj
  | none => none
  | some ob => some (renOb ρ N ob)
/-- The caller's objects behind the call. -/
def updH (ρ0 : Rho) (N : Nat) : Rho → Hp → Hp → Hp → Hp
  | some (n, _) :: ρ, some t :: h, t' :: h', s => match t.own with
    | true => updH ρ0 N ρ h h' (s.set n (optOb ρ0 N t'))
    | false => updH ρ0 N ρ h h' s
  | _ :: ρ, _ :: h, _ :: h', s => updH ρ0 N ρ h h' s
  | _, _, _, s => s
/-- The caller's heap behind the call. -/
def hpCall (ρ : Rho) (h0 h0' s : Hp) : Hp := updH ρ s.length ρ h0 h0' s ++ renHp ρ s.length (h0'.drop h0.length)

theorem updH_length (ρ0 : Rho) (N : Nat) : ∀ (ρ : Rho) (h h' s : Hp), (updH ρ0 N ρ h h' s).length = s.length
  | [], _, _, s => by simp [updH]
  | x :: ρ, [], _, s => by cases x <;> simp [updH]
  | x :: ρ, y :: h, [], s => by cases x <;> cases y <;> simp [updH]
  | none :: ρ, y :: h, z :: h', s => by cases y <;> simp [updH, updH_length ρ0 N ρ h h' s]
  | some x :: ρ, none :: h, z :: h', s => by simp [updH, updH_length ρ0 N ρ h h' s]
  | some (n, d) :: ρ, some t :: h, z :: h', s => by
    cases ho : t.own
    · simp [updH, ho, updH_length ρ0 N ρ h h' s]
    · simp [updH, ho, updH_length ρ0 N ρ h h' (s.set n (optOb ρ0 N z))]
theorem updH_other {ρ0 : Rho} {N o : Nat} : ∀ {ρ : Rho} {h h' s : Hp}, (∀ (i : Nat) (d : Option Nat) (t : AObj), ρ[i]? = some (some (o, d)) → h[i]? = some (some t) → t.own = false) → (updH ρ0 N ρ h h' s)[o]? = s[o]?
  | [], _, _, s, _ => by simp [updH]
  | x :: ρ, [], _, s, _ => by cases x <;> simp [updH]
  | x :: ρ, y :: h, [], s, _ => by cases x <;> cases y <;> simp [updH]
  | none :: ρ, y :: h, z :: h', s, hx => by
    cases y <;> simpa [updH] using updH_other (ρ := ρ) (h := h) (h' := h') (s := s) (fun i d t h1 h2 => hx (i + 1) d t (by simpa using h1) (by simpa using h2))
  | some x :: ρ, none :: h, z :: h', s, hx => by
    simpa [updH] using updH_other (ρ := ρ) (h := h) (h' := h') (s := s) (fun i d t h1 h2 => hx (i + 1) d t (by simpa using h1) (by simpa using h2))
  | some (n, d) :: ρ, some t :: h, z :: h', s, hx => by
    cases ho : t.own
    · simpa [updH, ho] using updH_other (ρ := ρ) (h := h) (h' := h') (s := s) (fun i d t h1 h2 => hx (i + 1) d t (by simpa using h1) (by simpa using h2))
    · have hne : n ≠ o := fun e => by
        subst e
        have := hx 0 d t (by simp) (by simp)
        rw [ho] at this; cases this
      have := updH_other (ρ0 := ρ0) (N := N) (ρ := ρ) (h := h) (h' := h') (s := s.set n (optOb ρ0 N z)) (fun i d t h1 h2 => hx (i + 1) d t (by simpa using h1) (by simpa using h2))
      simp only [updH, ho]
      rw [this, List.getElem?_set_ne hne]
theorem updH_own {ρ0 : Rho} {N o : Nat} : ∀ {ρ : Rho} {h h' s : Hp}, sepB ρ h = true → o < s.length → ∀ {i : Nat} {d : Option Nat} {t : AObj} {x : Option AObj}, ρ[i]? = some (some (o, d)) → h[i]? = some (some t) → t.own = true → h'[i]? = some x → (updH ρ0 N ρ h h' s)[o]? = some (optOb ρ0 N x)
  | [], _, _, s, _, _, i, d, t, x, h1, _, _, _ => by simp at h1
  | _ :: _, [], _, s, _, _, i, d, t, x, _, h2, _, _ => by simp at h2
  | _ :: _, _ :: _, [], s, _, _, i, d, t, x, _, _, _, h4 => by simp at h4
  | y :: ρ, u :: h, z :: h', s, hs, hlt, 0, d, t, x, h1, h2, h3, h4 => by
    simp only [List.getElem?_cons_zero, Option.some.injEq] at h1 h2 h4
    subst h1; subst h2; subst h4
    have hx : ∀ (i : Nat) (d' : Option Nat) (t' : AObj), ρ[i]? = some (some (o, d')) → h[i]? = some (some t') → t'.own = false := by
      intro i d' t' k1 k2
      cases ho : t'.own with
      | false => rfl
      | true => exact absurd rfl (sepB_get (n := o) (m := o) (d := d) (e := d') (t := t) (u := t') hs (show 0 < i + 1 by omega) (by simp) (by simp) (by simpa using k1) (by simpa using k2) (.inl h3))
    simp only [updH, h3]
    rw [updH_other hx, List.getElem?_set_self hlt]
  | y :: ρ, u :: h, z :: h', s, hs, hlt, i + 1, d, t, x, h1, h2, h3, h4 => by
    simp only [List.getElem?_cons_succ] at h1 h2 h4
    cases y with
    | none => cases u <;> simpa [updH] using updH_own (ρ := ρ) (h := h) (h' := h') (s := s) (sepB_tail hs) hlt h1 h2 h3 h4
    | some y =>
      obtain ⟨n, e⟩ := y
      cases u with
      | none => simpa [updH] using updH_own (ρ := ρ) (h := h) (h' := h') (s := s) (sepB_tail hs) hlt h1 h2 h3 h4
      | some u =>
        cases ho : u.own
        · simpa [updH, ho] using updH_own (ρ := ρ) (h := h) (h' := h') (s := s) (sepB_tail hs) hlt h1 h2 h3 h4
        · simpa [updH, ho] using updH_own (ρ := ρ) (h := h) (h' := h') (s := s.set n (optOb ρ0 N z)) (sepB_tail hs) (by simpa using hlt) h1 h2 h3 h4
theorem renHp_get (ρ : Rho) (N : Nat) : ∀ (h : Hp) (o : Nat), (renHp ρ N h)[o]? = (h[o]?).map (optOb ρ N)
  | [], o => by simp [renHp]
  | none :: h, 0 => by simp [renHp, optOb]
  | some ob :: h, 0 => by simp [renHp, optOb]
  | none :: h, o + 1 => by simpa [renHp] using renHp_get ρ N h o
  | some ob :: h, o + 1 => by simpa [renHp] using renHp_get ρ N h o

/-- The β behind the call. -/
def beCall (β β0' : Be) (n : Nat) : Be := β ++ β0'.drop n
section
variable {β β0' : Be} {ρ : Rho} {N : Nat}
theorem beCall_new (hN : β.length = N) {o : Nat} (ho : ρ.length ≤ o) : (beCall β β0' ρ.length)[N + (o - ρ.length)]? = β0'[o]? := by
  unfold beCall
  rw [List.getElem?_append_right (by omega), List.getElem?_drop]
  congr 1
  omega
theorem beCall_old {o : Nat} (ho : o < β.length) : (beCall β β0' ρ.length)[o]? = β[o]? := by
  unfold beCall
  rw [List.getElem?_append_left ho]
theorem getD_at {β : Be} {n : Nat} {p : Pl} (h : β.getD n none = some p) : β[n]? = some (some p) := by
  rw [List.getD_eq_getElem?_getD] at h
  cases hx : β[n]? with
  | none => rw [hx] at h; cases h
  | some y => rw [hx] at h; simp only [Option.getD_some] at h; rw [h]
/-- A name's place, told to the caller. -/
theorem name_place (hN : β.length = N) (hle : Be.le (beOf β ρ) β0') {o : Nat} {p : Pl} (hp : β0'[o]? = some (some p)) :
    ∃ (n : Nat) (d : Option Nat) (q : Pl), nameAt ρ N o = some (n, d) ∧ (beCall β β0' ρ.length)[n]? = some (some q) ∧ p = (match d with
      | none => q
      | some d => { q with base := q.base + d * q.esz, avail := q.avail - d * q.esz }) := by
  unfold nameAt
  by_cases hlt : o < ρ.length
  · rw [if_pos hlt]
    have hx : ρ[o]? = some ρ[o] := List.getElem?_eq_getElem hlt
    have hb := hle _ _ (beOf_get β hx)
    rw [hp] at hb
    simp only [Option.some.injEq] at hb
    have hat : ρ.at o = ρ[o] := by unfold Rho.at; rw [List.getD_eq_getElem?_getD, hx]; rfl
    rw [hat]
    cases hr : ρ[o] with
    | none => rw [hr] at hb; cases hb
    | some x =>
      obtain ⟨n, d⟩ := x
      rw [hr] at hb
      cases d with
      | none =>
        dsimp only at hb
        have h1 := getD_at hb.symm
        exact ⟨n, none, p, rfl, by rw [beCall_old (List.getElem?_eq_some_iff.1 h1).1]; exact h1, rfl⟩
      | some d =>
        dsimp only at hb
        cases hg : β.getD n none with
        | none => rw [hg] at hb; cases hb
        | some q =>
          rw [hg] at hb
          simp only [Option.map_some, Option.some.injEq] at hb
          have h1 := getD_at hg
          exact ⟨n, some d, q, rfl, by rw [beCall_old (List.getElem?_eq_some_iff.1 h1).1]; exact h1, hb⟩
  · rw [if_neg hlt]
    exact ⟨N + (o - ρ.length), none, p, rfl, by rw [beCall_new hN (by omega)]; exact hp, rfl⟩
theorem renSc_R (hN : β.length = N) (hle : Be.le (beOf β ρ) β0') : ∀ {s : Sc} {v : Value}, ScR β0' s v → ScR (beCall β β0' ρ.length) (renSc ρ N s) v
  | .int .., _, h => h
  | .bo _, _, h => h
  | .st _, _, h => h
  | .nil, _, h => h
  | .un, _, h => h
  | .sl o off len, v, ⟨a, cap, hv, h1, h2, h3⟩ => by
    rcases h3 with h3 | ⟨p, hp, ha, hav⟩
    · subst h3
      have : len = 0 := by omega
      subst this
      subst hv
      simp only [renSc]
      split
      · exact ⟨a, 0, rfl, Nat.le_refl _, h2, .inl rfl⟩
      · exact ⟨a, 0, rfl, Nat.le_refl _, h2, .inl rfl⟩
      · exact ⟨a, rfl⟩
    · obtain ⟨n, d, q, hn, hq, hpq⟩ := name_place hN hle hp
      simp only [renSc, hn]
      cases d with
      | none =>
        dsimp only at hpq
        subst hpq
        exact ⟨a, cap, hv, h1, h2, .inr ⟨p, hq, ha, hav⟩⟩
      | some d =>
        dsimp only at hpq
        subst hpq
        dsimp only at ha hav
        by_cases hc : cap = 0
        · exact ⟨a, cap, hv, h1, h2, .inl hc⟩
        · refine ⟨a, cap, hv, h1, h2, ?_⟩
          by_cases hz : q.esz = 0
          · refine .inr ⟨q, hq, ?_, ?_⟩
            · rw [ha, hz]; simp
            · rw [hz]; simp
          · refine .inr ⟨q, hq, ?_, ?_⟩
            · rw [ha]
              simp only [Option.some.injEq, Addr.mk.injEq, and_true, true_and]
              rw [Nat.add_mul]
              omega
            · have hpos : 0 < (off + cap) * q.esz := Nat.mul_pos (by omega) (by omega)
              rw [show off + d + cap = (off + cap) + d from by omega, Nat.add_mul]
              omega
  | .pt o k j, v, ⟨p, hp, hv⟩ => by
    obtain ⟨n, d, q, hn, hq, hpq⟩ := name_place hN hle hp
    simp only [renSc, hn]
    cases d with
    | none =>
      dsimp only at hpq
      subst hpq
      exact ⟨p, hq, hv⟩
    | some d =>
      dsimp only at hpq
      subst hpq
      refine ⟨q, hq, ?_⟩
      rw [hv]
      simp only [Value.pointer.injEq, Option.some.injEq, Addr.mk.injEq, and_true, true_and]
      rw [Nat.add_mul]
      omega
theorem renC_R (hN : β.length = N) (hle : Be.le (beOf β ρ) β0') : ∀ {s : List Sc} {vs : List Value}, L2 (ScR β0') s vs → L2 (ScR (beCall β β0' ρ.length)) (renC ρ N s) vs
  | [], [], _ => trivial
  | a :: l, v :: vs, h => ⟨renSc_R hN hle h.1, renC_R hN hle h.2⟩
  | [], _ :: _, h => h.elim
  | _ :: _, [], h => h.elim
theorem renCo_R (hN : β.length = N) (hle : Be.le (beOf β ρ) β0') {s : Co} {v : Value} (h : CoR β0' s v) : CoR (beCall β β0' ρ.length) (renCo ρ N s) v := by
  cases s with
  | sc s => exact renSc_R hN hle h
  | ag l => obtain ⟨vs, hv, hl⟩ := h; exact ⟨vs, hv, renC_R hN hle hl⟩
theorem renTu_R (hN : β.length = N) (hle : Be.le (beOf β ρ) β0') : ∀ {s : List Co} {vs : List Value}, L2 (CoR β0') s vs → L2 (CoR (beCall β β0' ρ.length)) (renTu ρ N s) vs
  | [], [], _ => trivial
  | a :: l, v :: vs, h => ⟨renCo_R hN hle h.1, renTu_R hN hle h.2⟩
  | [], _ :: _, h => h.elim
  | _ :: _, [], h => h.elim
theorem renAV_R (hN : β.length = N) (hle : Be.le (beOf β ρ) β0') {s : AV} {v : Value} (h : AVR β0' s v) : AVR (beCall β β0' ρ.length) (renAV ρ N s) v := by
  cases s with
  | sc s => exact renSc_R hN hle h
  | ag l => obtain ⟨vs, hv, hl⟩ := h; exact ⟨vs, hv, renC_R hN hle hl⟩
  | tu l => obtain ⟨vs, hv, hl⟩ := h; exact ⟨vs, hv, renTu_R hN hle hl⟩
  | cl f l => obtain ⟨vs, hv, hl⟩ := h; exact ⟨vs, hv, renC_R hN hle hl⟩
theorem renC_get (ρ : Rho) (N : Nat) : ∀ (l : List Sc) (i : Nat), (renC ρ N l)[i]? = (l[i]?).map (renSc ρ N)
  | [], i => by simp [renC]
  | a :: l, 0 => by simp [renC]
  | a :: l, i + 1 => by simpa [renC] using renC_get ρ N l i
theorem renC_length (ρ : Rho) (N : Nat) : ∀ (l : List Sc), (renC ρ N l).length = l.length
  | [] => rfl
  | a :: l => by simp [renC, renC_length ρ N l]
theorem renCs_get (ρ : Rho) (N : Nat) : ∀ (l : List (List Sc)) (i : Nat), (renCs ρ N l)[i]? = (l[i]?).map (renC ρ N)
  | [], i => by simp [renCs]
  | a :: l, 0 => by simp [renCs]
  | a :: l, i + 1 => by simpa [renCs] using renCs_get ρ N l i
theorem renOb_same (ob : AObj) : (renOb ρ N ob).esz = ob.esz ∧ (renOb ρ N ob).ty = ob.ty ∧ (renOb ρ N ob).own = ob.own ∧ (renOb ρ N ob).fl = ob.fl := by
  unfold renOb
  split <;> simp_all
/-- An object, told to the caller. -/
theorem renOb_R (hN : β.length = N) (hle : Be.le (beOf β ρ) β0') {w : World} {p : Option Pl} {ob : AObj} (h : ObR β0' w p ob) (hflat : ob.fl = true → FlatL ob.cs) : ObR (beCall β β0' ρ.length) w p (renOb ρ N ob) := by
  obtain ⟨e1, e2, e3, e4⟩ := renOb_same (ρ := ρ) (N := N) ob
  cases p with
  | none =>
    have h0 : ob.cs = [] := h
    show (renOb ρ N ob).cs = []
    unfold renOb
    split
    · exact h0
    · rw [h0]; rfl
  | some p =>
    obtain ⟨he, arr, T, fz, hh, hc, ho⟩ := h
    refine ⟨by rw [e1]; exact he, arr, T, fz, hh, ?_, by rw [e2, e3]; exact ho⟩
    rw [e1]
    unfold renOb
    split
    · rename_i hf
      exact fun k c hk => ⟨(hc k c hk).1, fun j s hs => let ⟨v, hv, hr⟩ := (hc k c hk).2 j s hs; ⟨v, hv, flat_R (flatC_mem.1 (hflat hf c (List.mem_of_getElem? hk)) s (List.mem_of_getElem? hs)) hr⟩⟩
    · intro k c hk
      dsimp only at hk
      rw [renCs_get] at hk
      simp only [Option.map_eq_some_iff] at hk
      obtain ⟨c0, hk0, rfl⟩ := hk
      obtain ⟨h1, h2⟩ := hc k c0 hk0
      refine ⟨by rw [renC_length]; exact h1, fun j s hs => ?_⟩
      rw [renC_get] at hs
      simp only [Option.map_eq_some_iff] at hs
      obtain ⟨s0, hs0, rfl⟩ := hs
      obtain ⟨v, hv, hr⟩ := h2 j s0 hs0
      exact ⟨v, hv, renSc_R hN hle hr⟩
end
theorem own_M {β : Be} {ρ : Rho} {s t : Hp} (hm : hpM ρ s ρ t) {k : Nat} (h : Own (beOf β ρ) t k) : ∃ (i n : Nat) (ob' : AObj) (p : Pl), ρ[i]? = some (some (n, none)) ∧ s[n]? = some (some ob') ∧ ob'.own = true ∧ β[n]? = some (some p) ∧ (beOf β ρ)[i]? = some (some p) ∧ p.blk = k ∧ ∃ ob : AObj, t[i]? = some (some ob) ∧ ob.own = true := by
  obtain ⟨i, ob, p, ho, hown, hp, rfl⟩ := h
  rcases hpM_get hm ho with ⟨hr, _⟩ | ⟨n, d, ob', hr, hn, hob⟩
  · rw [beOf_get β hr] at hp; cases hp
  · obtain ⟨rfl, hown'⟩ := obM_own hob hown
    have hp' := hp
    rw [beOf_get β hr] at hp'
    simp only [Option.some.injEq] at hp'
    exact ⟨i, n, ob', p, hr, hn, hown', getD_at hp', hp, rfl, ob, ho, hown⟩
/-- The contract, at the caller's heap. -/
theorem callA_at {P : Program} {f : FuncId} {args0 avs : List AV} {h0 h0' s : Hp} {res0 : AV} (ct : CallA P f args0 h0 res0 h0') (ρ : Rho) (hargs : avsM ρ args0 avs) (hm : hpM ρ s ρ h0) (hsep : sepB ρ h0 = true) :
    CallA P f avs s (renAV ρ s.length res0) (hpCall ρ h0 h0' s) := by
  obtain ⟨hent, hcall⟩ := ct
  refine ⟨hent, fun β w vs hs hvs => ?_⟩
  have hlen : ρ.length = h0.length := hpM_length hm
  refine (hcall (beOf β ρ) w vs (hsim_M hs hm hsep) (avsM_R hargs hvs)).mono fun e w' ⟨β0', v, he, hr, hh, hst⟩ => ?_
  have hN : β.length = s.length := hs.len
  have hle := hst.le
  have hl0' : h0.length ≤ h0'.length := hst.len
  -- blocks that were there stay, but for what the callee owned
  have hblk : ∀ {o : Nat} {ob : AObj} {p : Pl}, s[o]? = some (some ob) → β[o]? = some (some p) → (∀ (i : Nat) (d : Option Nat) (t : AObj), ρ[i]? = some (some (o, d)) → h0[i]? = some (some t) → t.own = false) → w'.heap[p.blk]? = w.heap[p.blk]? := by
    intro o ob p ho hp hx
    obtain ⟨q, hq, hR⟩ := hs.ob o ob ho
    rw [hp] at hq; cases hq
    refine hst.block _ hR.lt fun hown => ?_
    obtain ⟨i, n, ob', q, hr1, hn, hown', hq, _, hqb, t, ht, hto⟩ := own_M hm hown
    by_cases hno : n = o
    · subst hno
      have := hx i none t hr1 ht
      rw [hto] at this; cases this
    · exact hs.apart n o ob' ob q p hn ho hown' hq hp hno hqb
  -- what stands in the caller's heap behind the call
  have hlenU : (updH ρ s.length ρ h0 h0' s).length = s.length := updH_length _ _ _ _ _ _
  have kind : ∀ {o : Nat} {x : AObj}, (hpCall ρ h0 h0' s)[o]? = some (some x) →
      (o < s.length ∧ s[o]? = some (some x) ∧ (∀ (i : Nat) (d : Option Nat) (t : AObj), ρ[i]? = some (some (o, d)) → h0[i]? = some (some t) → t.own = false)) ∨
      (o < s.length ∧ ∃ (i : Nat) (x0 t ob : AObj), ρ[i]? = some (some (o, none)) ∧ h0[i]? = some (some t) ∧ t.own = true ∧ s[o]? = some (some ob) ∧ ob.own = true ∧ h0'[i]? = some (some x0) ∧ i < h0.length ∧ x = renOb ρ s.length x0) ∨
      (∃ (i : Nat) (x0 : AObj), h0.length ≤ i ∧ o = s.length + (i - h0.length) ∧ h0'[i]? = some (some x0) ∧ x = renOb ρ s.length x0) := by
    intro o x hx
    unfold hpCall at hx
    rcases Nat.lt_or_ge o s.length with hlt | hge
    · rw [List.getElem?_append_left (by rw [hlenU]; exact hlt)] at hx
      by_cases hown : ∃ (i : Nat) (d : Option Nat) (t : AObj), ρ[i]? = some (some (o, d)) ∧ h0[i]? = some (some t) ∧ t.own = true
      · obtain ⟨i, d, t, h1, h2, h3⟩ := hown
        have hil : i < h0.length := (List.getElem?_eq_some_iff.1 h2).1
        have hx' : h0'[i]? = some (h0'[i]'(by omega)) := List.getElem?_eq_getElem (by omega)
        rw [updH_own hsep hlt h1 h2 h3 hx'] at hx
        rcases hpM_get hm h2 with ⟨hr1, _⟩ | ⟨n, d', ob', hr1, hn, hob⟩
        · rw [h1] at hr1; cases hr1
        · rw [h1] at hr1
          simp only [Option.some.injEq, Prod.mk.injEq] at hr1
          obtain ⟨rfl, rfl⟩ := hr1
          obtain ⟨rfl, hown'⟩ := obM_own hob h3
          cases hz : h0'[i]'(by omega) with
          | none => rw [hz] at hx; cases hx
          | some x0 =>
            rw [hz] at hx
            simp only [optOb, Option.some.injEq] at hx
            exact .inr (.inl ⟨hlt, i, x0, t, ob', h1, h2, h3, hn, hown', by rw [hx', hz], hil, hx.symm⟩)
      · have hx2 : ∀ (i : Nat) (d : Option Nat) (t : AObj), ρ[i]? = some (some (o, d)) → h0[i]? = some (some t) → t.own = false := by
          intro i d t h1 h2
          cases h3 : t.own with
          | false => rfl
          | true => exact absurd ⟨i, d, t, h1, h2, h3⟩ hown
        rw [updH_other hx2] at hx
        exact .inl ⟨hlt, hx, hx2⟩
    · rw [List.getElem?_append_right (by rw [hlenU]; exact hge), hlenU, renHp_get, List.getElem?_drop] at hx
      simp only [Option.map_eq_some_iff] at hx
      obtain ⟨y, hy, hxy⟩ := hx
      cases y with
      | none => cases hxy
      | some x0 =>
        simp only [optOb, Option.some.injEq] at hxy
        exact .inr (.inr ⟨h0.length + (o - s.length), x0, by omega, by omega, hy, hxy.symm⟩)
  have hnew : ∀ {i : Nat}, h0.length ≤ i → (beCall β β0' ρ.length)[s.length + (i - h0.length)]? = β0'[i]? := by
    intro i hi
    have := beCall_new (β := β) (β0' := β0') (ρ := ρ) hN (o := i) (by omega)
    rwa [hlen] at this ⊢
  have hold : ∀ {o : Nat}, o < s.length → (beCall β β0' ρ.length)[o]? = β[o]? := fun h => beCall_old (by omega)
  -- the place of what the callee owned
  have hplace : ∀ {i o : Nat} {q : Option Pl}, ρ[i]? = some (some (o, none)) → o < s.length → β0'[i]? = some q → β[o]? = some q := by
    intro i o q h1 ho hq
    have hb := hle _ _ (beOf_get β h1)
    rw [hq] at hb
    simp only [Option.some.injEq] at hb
    have : β[o]? = some (β[o]'(by omega)) := List.getElem?_eq_getElem (by omega)
    rw [List.getD_eq_getElem?_getD, this] at hb
    rw [this, hb]
    rfl
  have hfresh : ∀ {i : Nat} {x0 : AObj} {p : Pl}, h0.length ≤ i → h0'[i]? = some (some x0) → β0'[i]? = some (some p) → Own β s p.blk ∨ w.heap.size ≤ p.blk := by
    intro i x0 p hi hx hp
    rcases hst.fresh i x0 p hi hx hp with h1 | h1
    · obtain ⟨j, n, ob', q, hr1, hn, hown', hq, _, hqb, _⟩ := own_M hm h1
      exact .inl ⟨n, ob', q, hn, hown', hq, hqb⟩
    · exact .inr h1
  refine ⟨beCall β β0' ρ.length, v, he, renAV_R hN hle hr, ⟨?_, ?_, ?_, ?_⟩, ⟨?_, hst.os, hst.tape, hst.output, hst.size, ?_, ?_, ?_, ?_⟩⟩
  · -- lengths
    unfold beCall hpCall
    have hr1 : ∀ h : Hp, (renHp ρ s.length h).length = h.length := by
      intro h
      induction h with
      | nil => rfl
      | cons y h ih => cases y <;> simp [renHp, ih]
    simp only [List.length_append, List.length_drop, hlenU, hr1, hN, hh.len, hlen]
  · intro o x hx
    rcases kind hx with ⟨hlt, hsx, hx2⟩ | ⟨hlt, i, x0, t, ob, h1, h2, h3, hsx, hown, hx0, hil, rfl⟩ | ⟨i, x0, hi, rfl, hx0, rfl⟩
    · obtain ⟨q, hq, hR⟩ := hs.ob o x hsx
      refine ⟨q, by rw [hold hlt]; exact hq, (hR.world fun q' hq' => ?_).mono (Be.le_append _ _)⟩
      subst hq'
      exact hblk hsx hq hx2
    · obtain ⟨q, hq, hR⟩ := hh.ob i x0 hx0
      exact ⟨q, by rw [hold hlt]; exact hplace h1 hlt hq, renOb_R hN hle hR (hh.flat i x0 hx0)⟩
    · obtain ⟨q, hq, hR⟩ := hh.ob i x0 hx0
      exact ⟨q, by rw [hnew hi]; exact hq, renOb_R hN hle hR (hh.flat i x0 hx0)⟩
  · intro o x hx hf
    have hflat : ∀ {i : Nat} {x0 : AObj}, h0'[i]? = some (some x0) → (renOb ρ s.length x0).fl = true → FlatL (renOb ρ s.length x0).cs := by
      intro i x0 hx0 hf
      have h4 := (renOb_same (ρ := ρ) (N := s.length) x0).2.2.2
      rw [h4] at hf
      have : renOb ρ s.length x0 = x0 := by unfold renOb; rw [hf]
      rw [this]
      exact hh.flat i x0 hx0 hf
    rcases kind hx with ⟨hlt, hsx, hx2⟩ | ⟨hlt, i, x0, t, ob, h1, h2, h3, hsx, hown, hx0, hil, rfl⟩ | ⟨i, x0, hi, rfl, hx0, rfl⟩
    · exact hs.flat o x hsx hf
    · exact hflat hx0 hf
    · exact hflat hx0 hf
  · intro o o' x x' p p' hx hx' hxo hp hp' hne
    -- an object of the caller's that was there: its place in β, and that it was owned if it is
    have oldp : ∀ {o : Nat} {x : AObj} {p : Pl}, (hpCall ρ h0 h0' s)[o]? = some (some x) → o < s.length → (beCall β β0' ρ.length)[o]? = some (some p) → ∃ ob : AObj, s[o]? = some (some ob) ∧ (x.own = true → ob.own = true) ∧ β[o]? = some (some p) := by
      intro o x p hx hlt hp
      rw [hold hlt] at hp
      rcases kind hx with ⟨_, hsx, _⟩ | ⟨_, i, x0, t, ob, h1, h2, h3, hsx, hown, hx0, hil, rfl⟩ | ⟨i, x0, hi, rfl, hx0, rfl⟩
      · exact ⟨x, hsx, id, hp⟩
      · exact ⟨ob, hsx, fun _ => hown, hp⟩
      · omega
    have cross : ∀ {o o' : Nat} {x x' : AObj} {p p' : Pl}, (hpCall ρ h0 h0' s)[o]? = some (some x) → (hpCall ρ h0 h0' s)[o']? = some (some x') → o < s.length → s.length ≤ o' → (x.own = true ∨ x'.own = true) →
        (beCall β β0' ρ.length)[o]? = some (some p) → (beCall β β0' ρ.length)[o']? = some (some p') → p.blk ≠ p'.blk := by
      intro o o' x x' p p' hx hx' hlt hge hor hp hp' hbb
      obtain ⟨ob, hsx, hown, hbp⟩ := oldp hx hlt hp
      rcases kind hx' with ⟨h1, _⟩ | ⟨h1, _⟩ | ⟨i', x0', hi', rfl, hx0', rfl⟩
      · omega
      · omega
      · rw [hnew hi'] at hp'
        rcases hst.fresh i' x0' p' hi' hx0' hp' with hO | hO
        · obtain ⟨j, n, ob', q, hr1, hn, hown', hq, hbq, hqb, t, ht, hto⟩ := own_M hm hO
          by_cases hno : n = o
          · subst hno
            rcases kind hx with ⟨_, _, hx2⟩ | ⟨_, i, x0, t', ob2, h1, h2, h3, _, _, hx0, hil, rfl⟩ | ⟨i, x0, hi, he2, _⟩
            · have := hx2 j none t hr1 ht
              rw [hto] at this; cases this
            · have hij : i = j := by
                by_cases hij : i = j
                · exact hij
                · exact absurd rfl (sepB_ne hsep hij h1 h2 hr1 ht (.inl h3))
              subst hij
              have hbi : β0'[i]? = some (some q) := hle _ _ hbq
              have hneq : i ≠ i' := by omega
              rw [(renOb_same (ρ := ρ) (N := s.length) x0).2.2.1, (renOb_same (ρ := ρ) (N := s.length) x0').2.2.1] at hor
              rcases hor with ho1 | ho1
              · exact hh.apart i i' x0 x0' q p' hx0 hx0' ho1 hbi hp' hneq hqb
              · exact hh.apart i' i x0' x0 p' q hx0' hx0 ho1 hp' hbi (Ne.symm hneq) hqb.symm
            · omega
          · exact hs.apart n o ob' ob q p hn hsx hown' hq hbp hno (by rw [hqb, hbb])
        · obtain ⟨q, hq, hR⟩ := hs.ob o ob hsx
          rw [hbp] at hq
          cases hq
          have := hR.lt
          omega
    rcases Nat.lt_or_ge o s.length with hlt | hge
    · rcases Nat.lt_or_ge o' s.length with hlt' | hge'
      · obtain ⟨ob, hsx, hown, hbp⟩ := oldp hx hlt hp
        obtain ⟨ob', hsx', _, hbp'⟩ := oldp hx' hlt' hp'
        exact hs.apart o o' ob ob' p p' hsx hsx' (hown hxo) hbp hbp' hne
      · exact cross hx hx' hlt hge' (.inl hxo) hp hp'
    · rcases Nat.lt_or_ge o' s.length with hlt' | hge'
      · exact (cross hx' hx hlt' hge (.inr hxo) hp' hp).symm
      · rcases kind hx with ⟨h1, _⟩ | ⟨h1, _⟩ | ⟨i, x0, hi, rfl, hx0, rfl⟩
        · omega
        · omega
        · rcases kind hx' with ⟨h1, _⟩ | ⟨h1, _⟩ | ⟨i', x0', hi', rfl, hx0', rfl⟩
          · omega
          · omega
          · rw [hnew hi] at hp
            rw [hnew hi'] at hp'
            rw [(renOb_same (ρ := ρ) (N := s.length) x0).2.2.1] at hxo
            exact hh.apart i i' x0 x0' p p' hx0 hx0' hxo hp hp' (fun e => hne (by rw [e]))
  · exact Be.le_append _ _
  · intro k hk hno
    refine hst.block k hk fun hown => ?_
    obtain ⟨i, n, ob', q, hr1, hn, hown', hq, _, hqb, _⟩ := own_M hm hown
    exact hno ⟨n, ob', q, hn, hown', hq, hqb⟩
  · unfold hpCall
    rw [List.length_append, hlenU]
    omega
  · intro o x hlt hx
    rcases kind hx with ⟨_, hsx, _⟩ | ⟨_, i, x0, t, ob, h1, h2, h3, hsx, hown, hx0, hil, rfl⟩ | ⟨i, x0, hi, rfl, hx0, rfl⟩
    · exact ⟨x, hsx, id⟩
    · exact ⟨ob, hsx, fun _ => hown⟩
    · omega
  · intro o x p hge hx hp
    rcases kind hx with ⟨h1, _⟩ | ⟨h1, _⟩ | ⟨i, x0, hi, rfl, hx0, rfl⟩
    · omega
    · omega
    · rw [hnew hi] at hp
      exact hfresh hi hx0 hp
theorem den_call {P : Program} {E : Entry} {F : S → Prop} {f : FuncId} {avs : List AV} {d : Option Tmp} {k : List Item} {s : S} {c : Prop} {args0 : List AV} {h0 h0' : Hp} {res0 : AV} (hc : c) (ct : CallA P f args0 h0 res0 h0') (ρ : Rho)
    (hm : avsM ρ args0 avs ∧ hpM ρ s.hp ρ h0) (hsep : sepB ρ h0 = true) (hk : den P E F (.go k (s.put d (some (renAV ρ s.hp.length res0)) (hpCall ρ h0 h0' s.hp)) True)) : den P E F (.call f avs d k s c) :=
  ⟨hc, _, _, callA_at ct ρ hm.1 hm.2 hsep, hk.2⟩

/-! ### A whole function -/
def chunks {α : Type} : Nat → List α → List (List α)
  | 0, _ => []
  | n + 1, l => match l with
    | [] => []
    | l => l.take 16 :: chunks n (l.drop 16)
def padN : Nat → List AV → List (Option AV)
  | 0, l => l.map some
  | n + 1, [] => none :: padN n []
  | n + 1, a :: l => some a :: padN n l
theorem padN_eq : ∀ (n : Nat) (args : List AV), padN n args = args.map some ++ List.replicate (n - args.length) none
  | 0, l => by simp [padN]
  | n + 1, [] => by simp [padN, padN_eq n [], List.replicate_succ]
  | n + 1, a :: l => by simp [padN, padN_eq n l]
def initS (n : Nat) (args : List AV) : Slots := chunks (n / 16 + 1) (padN n args)
theorem chunks_get {α : Type} (d : Option α) : ∀ (m : Nat) (l : List (Option α)) (i : Nat), l.length ≤ 16 * m → ((chunks m l).getD (i / 16) []).getD (i % 16) none = l.getD i none ∧ (i % 16 < ((chunks m l).getD (i / 16) []).length → i < l.length)
  | 0, l, i, h => by
    have : l = [] := List.eq_nil_of_length_eq_zero (by omega)
    subst this
    simp [chunks]
  | m + 1, [], i, h => by simp [chunks]
  | m + 1, a :: l, i, h => by
    simp only [chunks]
    rcases Nat.lt_or_ge i 16 with hi | hi
    · have h1 : i / 16 = 0 := by omega
      have h2 : i % 16 = i := by omega
      rw [h1, h2]
      simp only [List.getD_cons_zero]
      refine ⟨?_, fun h3 => by simp at h3 ⊢; omega⟩
      rw [List.getD_eq_getElem?_getD, List.getElem?_take_of_lt hi, List.getD_eq_getElem?_getD]
    · have h1 : i / 16 = (i - 16) / 16 + 1 := by omega
      have h2 : i % 16 = (i - 16) % 16 := by omega
      rw [h1, h2, List.getD_cons_succ]
      obtain ⟨e1, e2⟩ := chunks_get d m ((a :: l).drop 16) (i - 16) (by simp at h ⊢; omega)
      refine ⟨?_, fun h3 => ?_⟩
      · rw [e1, List.getD_eq_getElem?_getD, List.getElem?_drop, List.getD_eq_getElem?_getD]
        congr 2
        omega
      · have := e2 h3
        simp at this ⊢
        omega
theorem chunks_lt {α : Type} : ∀ (m : Nat) (l : List (Option α)) (i : Nat), i % 16 < ((chunks m l).getD (i / 16) []).length → i < l.length
  | 0, l, i, h => by simp [chunks] at h
  | m + 1, [], i, h => by simp [chunks] at h
  | m + 1, a :: l, i, h => by
    simp only [chunks] at h
    rcases Nat.lt_or_ge i 16 with hi | hi
    · have h1 : i / 16 = 0 := by omega
      have h2 : i % 16 = i := by omega
      rw [h1, h2] at h
      simp only [List.getD_cons_zero] at h
      simp at h ⊢
      omega
    · have h1 : i / 16 = (i - 16) / 16 + 1 := by omega
      have h2 : i % 16 = (i - 16) % 16 := by omega
      rw [h1, h2, List.getD_cons_succ] at h
      have := chunks_lt m ((a :: l).drop 16) (i - 16) h
      simp at this ⊢
      omega
theorem chunks_some {α : Type} : ∀ (m : Nat) (l : List (Option α)) (i : Nat) (v : α), ((chunks m l).getD (i / 16) []).getD (i % 16) none = some v → l[i]? = some (some v)
  | 0, l, i, v, h => by simp [chunks] at h
  | m + 1, [], i, v, h => by simp [chunks] at h
  | m + 1, a :: l, i, v, h => by
    simp only [chunks] at h
    rcases Nat.lt_or_ge i 16 with hi | hi
    · have h1 : i / 16 = 0 := by omega
      have h2 : i % 16 = i := by omega
      rw [h1, h2] at h
      simp only [List.getD_cons_zero] at h
      rw [List.getD_eq_getElem?_getD, List.getElem?_take_of_lt hi] at h
      cases hx : (a :: l)[i]? with
      | none => rw [hx] at h; cases h
      | some y => rw [hx] at h; simp only [Option.getD_some] at h; rw [h]
    · have h1 : i / 16 = (i - 16) / 16 + 1 := by omega
      have h2 : i % 16 = (i - 16) % 16 := by omega
      rw [h1, h2, List.getD_cons_succ] at h
      have := chunks_some m ((a :: l).drop 16) (i - 16) v h
      rw [List.getElem?_drop] at this
      rw [← this]
      congr 1
      omega
theorem initS_R {β : Be} {n : Nat} {args : List AV} {vs : List Value} (h : L2 (AVR β) args vs) : SlotsR β (initS n args) (vs.toArray ++ Array.replicate (n - vs.toArray.size) undef) := by
  have hl := h.length
  have hpl : (padN n args).length = max args.length n := by simp [padN_eq]; omega
  by_cases hn : args.length ≤ n
  · have hb : (padN n args).length ≤ 16 * (n / 16 + 1) := by rw [hpl]; omega
    refine ⟨fun i hi => ?_, fun i v hv => ?_⟩
    · have := (chunks_get (α := AV) none (n / 16 + 1) (padN n args) i hb).2 hi
      rw [hpl] at this
      simp
      omega
    · unfold Slots.get initS at hv
      rw [(chunks_get (α := AV) none (n / 16 + 1) (padN n args) i hb).1, List.getD_eq_getElem?_getD] at hv
      rw [padN_eq] at hv
      rcases Nat.lt_or_ge i args.length with hi | hi
      · rw [List.getElem?_append_left (by simpa using hi), List.getElem?_map] at hv
        have hx : args[i]? = some args[i] := List.getElem?_eq_getElem hi
        rw [hx] at hv
        simp only [Option.map_some, Option.getD_some, Option.some.injEq] at hv
        obtain ⟨u, hu, hr⟩ := h.get hx
        refine ⟨u, ?_, by rw [← hv]; exact hr⟩
        rw [Array.getElem?_append_left (by simp; omega)]
        simpa using hu
      · rw [List.getElem?_append_right (by simpa using hi)] at hv
        rw [List.getElem?_replicate] at hv
        split at hv <;> cases hv
  · -- more arguments than slots: nothing is said but by the arguments themselves
    have hrep : n - args.length = 0 := by omega
    have hpad : padN n args = args.map some := by simp [padN_eq, hrep]
    refine ⟨fun i hi => ?_, fun i v hv => ?_⟩
    · unfold Slots.has initS at hi
      rw [hpad] at hi
      have := chunks_lt (n / 16 + 1) (args.map some) i hi
      simp at this ⊢
      omega
    · unfold Slots.get initS at hv
      rw [hpad] at hv
      have hx := chunks_some (n / 16 + 1) (args.map some) i v hv
      rw [List.getElem?_map] at hx
      simp only [Option.map_eq_some_iff] at hx
      obtain ⟨y, hy, he⟩ := hx
      simp only [Option.some.injEq] at he
      subst he
      obtain ⟨u, hu, hr⟩ := h.get hy
      refine ⟨u, ?_, hr⟩
      have hlt := (List.getElem?_eq_some_iff.1 hu).1
      rw [Array.getElem?_append_left (by simpa using hlt)]
      simpa using hu
end Go.Proofs.YtoghbjbfldlfpaaGreat
