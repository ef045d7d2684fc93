/-
  VX, part 10: the machine that runs code on abstract states; renaming; the rules for calls, loops and whole functions.
-/
import Derived.Test.YtoghbjbfldlfpaaGreatVx9
namespace Go.Proofs.YtoghbjbfldlfpaaGreat
open Go.RowKit
set_option linter.unusedVariables false
set_option linter.unusedSimpArgs false

inductive St where
  | go (k : List Item) (s : S) (c : Prop)
  | fin (s : S) (c : Prop)
  | call (f : Nat) (args : List AV) (d : Option Tmp) (k : List Item) (s : S) (c : Prop)
  | lp (b : Code) (k : List Item) (s : S) (c : Prop)
  | hk (N : S → Prop) (s : S) (c : Prop)
  | draw (id : Nat) (r : Array Oper) (k : List Item) (s : S) (c : Prop)
  | bad
def exitK (id : Nat) : List Item → Option (List Item)
  | [] => none
  | .inB id' :: k => if id' = id then some k else exitK id k
  | .code _ :: k => exitK id k
  | .ops _ _ :: k => exitK id k
  | .hook _ :: k => exitK id k
def stepOp (P : Program) (r : Array Oper) (o : Oper) (l : List Oper) (k : List Item) (s : S) (c : Prop) : St :=
  match o.op with
  | .call ⟨.value x, args, _⟩ => match s.ev x, s.evs args.toList with
    | some (.cl f caps), some avs => .call f (avs ++ scAll caps) o.dst (.ops r l :: k) s c
    | _, _ => .bad
  | op => match aop P s o.type op with
    | some ⟨v, h, d⟩ => .go (.ops r l :: k) (s.put o.dst v h) (c ∧ d)
    | none => .bad
def stepG (P : Program) : List Item → S → Prop → St
  | [], s, c => .fin s c
  | .hook N :: k, s, c => .hk N s c
  | .inB _ :: k, s, c => .go k s c
  | .ops r [] :: k, s, c => .go k s c
  | .ops r (o :: l) :: k, s, c => match guardOf r s o with
    | some b => match b with
      | true => stepOp P r o l k s c
      | false => .go (.ops r l :: k) (s.put o.dst (some (.tu [])) s.hp) c
    | none => .bad
  | .code .skip :: k, s, c => .go k s c
  | .code (.seq a b) :: k, s, c => .go (.code a :: .code b :: k) s c
  | .code (.cond t a b) :: k, s, c => match s.ev t with
    | some (.sc (.bo x)) => match x with
      | true => .go (.code a :: k) s c
      | false => .go (.code b :: k) s c
    | _ => .bad
  | .code (.block id a) :: k, s, c => .go (.code a :: .inB id :: k) s c
  | .code (.exit id) :: k, s, c => match exitK id k with
    | some k' => .go k' s c
    | none => .bad
  | .code .ret :: k, s, c => .fin s c
  | .code (.region id r d) :: k, s, c => match d with
    | false => .go (.ops r r.toList :: k) s c
    | true => .draw id r k s c
  | .code (.loop b) :: k, s, c => .lp b k s c
  | _, _, _ => .bad
def run (P : Program) : Nat → St → St
  | 0, x => x
  | n + 1, .go k s c => run P n (stepG P k s c)
  | _ + 1, .fin s c => .fin s c
  | _ + 1, .call f a d k s c => .call f a d k s c
  | _ + 1, .lp b k s c => .lp b k s c
  | _ + 1, .hk N s c => .hk N s c
  | _ + 1, .draw id r k s c => .draw id r k s c
  | _ + 1, .bad => .bad
/-- The end of a function: what holds of the state there. -/
def FinK (F : S → Prop) : Exit → S → Prop
  | .normal, s | .ret, s => F s
  | _, _ => False
def den (P : Program) (E : Entry) (F : S → Prop) : St → Prop
  | .go k s c => c ∧ KK P E (FinK F) k .normal s
  | .fin s c => c ∧ F s
  | .call f args d k s c => c ∧ ∃ res h', CallA P f args s.hp res h' ∧ KK P E (FinK F) k .normal (s.put d (some res) h')
  | .lp b k s c => c ∧ Den P E (.loop b) s (KK P E (FinK F) k)
  | .hk N s c => c ∧ N s
  | .draw id r k s c => c ∧ Den P E (.region id r true) s (KK P E (FinK F) k)
  | .bad => False
theorem kk_ret {P : Program} {E : Entry} {F : Exit → S → Prop} : ∀ {k : List Item} {s : S}, F .ret s → KK P E F k .ret s
  | [], _, h => h
  | .code _ :: k, s, h => kk_ret (k := k) h
  | .ops _ _ :: k, s, h => kk_ret (k := k) h
  | .inB _ :: k, s, h => kk_ret (k := k) h
  | .hook _ :: k, s, h => kk_ret (k := k) h
theorem kk_exit {P : Program} {E : Entry} {F : Exit → S → Prop} {id : Nat} : ∀ {k k' : List Item} {s : S}, exitK id k = some k' → KK P E F k' .normal s → KK P E F k (.exit id) s
  | [], k', s, h, _ => by cases h
  | .code _ :: k, k', s, h, hk => kk_exit (k := k) h hk
  | .ops _ _ :: k, k', s, h, hk => kk_exit (k := k) h hk
  | .hook _ :: k, k', s, h, hk => kk_exit (k := k) h hk
  | .inB id' :: k, k', s, h, hk => by
    simp only [exitK] at h
    simp only [KK]
    split at h
    · rename_i he
      subst he
      simp only [Option.some.injEq] at h
      subst h
      rw [if_pos rfl]
      exact hk
    · rename_i he
      rw [if_neg (Ne.symm he)]
      exact kk_exit (k := k) h hk
theorem kk_code {P : Program} {E : Entry} {F : Exit → S → Prop} {c : Code} {k : List Item} {s : S} (h : Den P E c s (KK P E F k)) : KK P E F (.code c :: k) .normal s := h
theorem stepOp_den {P : Program} {E : Entry} {F : S → Prop} {r : Array Oper} {o : Oper} {l : List Oper} {k : List Item} {s : S} {c : Prop} (hg : guardOf r s o = some true) (h : den P E F (stepOp P r o l k s c)) : c ∧ KK P E (FinK F) (.ops r (o :: l) :: k) .normal s := by
  unfold stepOp at h
  split at h
  · rename_i x args at_ ho
    split at h
    · rename_i f caps avs hx ha
      obtain ⟨hc, res, h', hcall, hk⟩ := h
      exact ⟨hc, denL_call hg ho hx ha hcall hk⟩
    · exact h.elim
  · split at h
    · rename_i v hp d hx
      obtain ⟨⟨hc, hd⟩, hk⟩ := h
      exact ⟨hc, denL_op hg hx hd hk⟩
    · exact h.elim
theorem step_den {P : Program} {E : Entry} {F : S → Prop} : ∀ {k : List Item} {s : S} {c : Prop}, den P E F (stepG P k s c) → den P E F (.go k s c) := by
  intro k s c h
  cases k with
  | nil => exact h
  | cons i k =>
    cases i with
    | hook N => exact h
    | inB id => exact h
    | ops r l =>
      cases l with
      | nil => exact ⟨h.1, denL_nil h.2⟩
      | cons o l =>
        simp only [stepG] at h
        split at h
        · rename_i b hg
          cases b with
          | true => exact stepOp_den hg h
          | false => exact ⟨h.1, denL_skip hg h.2⟩
        · exact h.elim
    | code C =>
      cases C with
      | skip => exact ⟨h.1, den_skip h.2⟩
      | region id r d =>
        cases d with
        | false => exact ⟨h.1, den_region h.2⟩
        | true => exact h
      | seq a b =>
        refine ⟨h.1, den_seq (den_mono h.2 fun e s' hk => ?_)⟩
        cases e <;> exact hk
      | cond t a b =>
        simp only [stepG] at h
        split at h
        · rename_i x ht
          cases x with
          | true => exact ⟨h.1, den_cond ht h.2⟩
          | false => exact ⟨h.1, den_cond ht h.2⟩
        · exact h.elim
      | block id a =>
        refine ⟨h.1, den_block (den_mono h.2 fun e s' hk => ?_)⟩
        cases e <;> exact hk
      | loop b => exact h
      | exit id =>
        simp only [stepG] at h
        split at h
        · rename_i k' hk'
          exact ⟨h.1, den_exit (kk_exit hk' h.2)⟩
        · exact h.elim
      | ret => exact ⟨h.1, den_ret (kk_ret h.2)⟩
      | rangeFunc => exact h.elim
      | scope => exact h.elim
      | label => exact h.elim
      | goto => exact h.elim
      | refuse => exact h.elim
theorem run_den {P : Program} {E : Entry} {F : S → Prop} : ∀ (n : Nat) {x : St}, den P E F (run P n x) → den P E F x
  | 0, _, h => h
  | n + 1, .go k s c, h => step_den (run_den n h)
  | _ + 1, .fin .., h => h
  | _ + 1, .call .., h => h
  | _ + 1, .lp .., h => h
  | _ + 1, .hk .., h => h
  | _ + 1, .draw .., h => h
  | _ + 1, .bad, h => h

/-! ### Renaming: a canonical target, seen in a source -/
/-- Where each of the target's objects lies in the source: its name there, whole or from an element on; or nowhere (it is empty). -/
abbrev Rho := List (Option (Nat × Option Nat))
def Rho.at (ρ : Rho) (o : Nat) : Option (Nat × Option Nat) := ρ.getD o none
def scM (ρ : Rho) : Sc → Sc → Prop
  | .int k n, .int k' n' => k' = k ∧ n' = n
  | .bo b, .bo b' => b' = b
  | .st l, .st l' => l' = l
  | .nil, .nil => True
  | .un, .un => True
  | .un, .pt .. => True
  | .sl o off len, .sl o' off' len' => match ρ.at o with
    | some (n, none) => o' = n ∧ off' = off ∧ len' = len
    | some (n, some d) => o' = n ∧ off' = off + d ∧ len' = len
    | none => False
  | .sl o off len, .nil => len = 0
  | .pt o k j, .pt o' k' j' => match ρ.at o with
    | some (n, none) => o' = n ∧ k' = k ∧ j' = j
    | some (n, some d) => o' = n ∧ k' = k + d ∧ j' = j
    | none => False
  | _, _ => False
def cM (ρ : Rho) : List Sc → List Sc → Prop
  | [], [] => True
  | a :: l, b :: m => scM ρ a b ∧ cM ρ l m
  | _, _ => False
def coM (ρ : Rho) : Co → Co → Prop
  | .sc a, .sc b => scM ρ a b
  | .ag a, .ag b => cM ρ a b
  | _, _ => False
def tuM (ρ : Rho) : List Co → List Co → Prop
  | [], [] => True
  | a :: l, b :: m => coM ρ a b ∧ tuM ρ l m
  | _, _ => False
def avM (ρ : Rho) : AV → AV → Prop
  | .sc a, .sc b => scM ρ a b
  | .ag a, .ag b => cM ρ a b
  | .tu a, .tu b => tuM ρ a b
  | .cl f a, .cl g b => g = f ∧ cM ρ a b
  | _, _ => False
def avsM (ρ : Rho) : List AV → List AV → Prop
  | [], [] => True
  | a :: l, b :: m => avM ρ a b ∧ avsM ρ l m
  | _, _ => False
def csM (ρ : Rho) : List (List Sc) → List (List Sc) → Prop
  | [], [] => True
  | a :: l, b :: m => cM ρ a b ∧ csM ρ l m
  | _, _ => False
/-- A target's object and the source's. -/
def obM (ρ : Rho) (d : Option Nat) (t s : AObj) : Prop :=
  s.esz = t.esz ∧ match d with
  | none => s.ty = t.ty ∧ (t.own = true → s.own = true) ∧ (match t.fl with
    | true => s.fl = true ∧ s.cs = t.cs
    | false => csM ρ t.cs s.cs)
  | some d => t.own = false ∧ t.fl = true ∧ s.fl = true ∧ (s.cs.drop d).take t.cs.length = t.cs
def hpM (ρ : Rho) (s : Hp) : Rho → Hp → Prop
  | [], [] => True
  | none :: ρ', some t :: h => t.cs = [] ∧ hpM ρ s ρ' h
  | some (n, d) :: ρ', some t :: h => (match s.getD n none with
    | some ob => obM ρ d t ob
    | none => False) ∧ hpM ρ s ρ' h
  | _ :: ρ', none :: h => hpM ρ s ρ' h
  | _, _ => False
/-- The target's β. -/
def beOf (β : Be) : Rho → Be
  | [] => []
  | none :: ρ => none :: beOf β ρ
  | some (n, none) :: ρ => β.getD n none :: beOf β ρ
  | some (n, some d) :: ρ => (β.getD n none).map (fun p => { p with base := p.base + d * p.esz, avail := p.avail - d * p.esz }) :: beOf β ρ
theorem beOf_length (β : Be) : ∀ ρ : Rho, (beOf β ρ).length = ρ.length
  | [] => rfl
  | none :: ρ => by simp [beOf, beOf_length β ρ]
  | some (n, none) :: ρ => by simp [beOf, beOf_length β ρ]
  | some (n, some d) :: ρ => by simp [beOf, beOf_length β ρ]
theorem beOf_get (β : Be) : ∀ {ρ : Rho} {o : Nat} {x : Option (Nat × Option Nat)}, ρ[o]? = some x → (beOf β ρ)[o]? = some (match x with
    | none => none
    | some (n, none) => β.getD n none
    | some (n, some d) => (β.getD n none).map (fun p => { p with base := p.base + d * p.esz, avail := p.avail - d * p.esz }))
  | [], o, x, h => by simp at h
  | y :: ρ, 0, x, h => by
    simp only [List.getElem?_cons_zero, Option.some.injEq] at h
    subst h
    cases y with
    | none => rfl
    | some y => obtain ⟨n, d⟩ := y; cases d <;> rfl
  | y :: ρ, o + 1, x, h => by
    simp only [List.getElem?_cons_succ] at h
    have := beOf_get β h
    cases y with
    | none => simpa [beOf] using this
    | some y => obtain ⟨n, d⟩ := y; cases d <;> simpa [beOf] using this
theorem rho_at {ρ : Rho} {o : Nat} {x : Nat × Option Nat} (h : ρ.at o = some x) : ρ[o]? = some (some x) := by
  unfold Rho.at at h
  rw [List.getD_eq_getElem?_getD] at h
  cases hx : ρ[o]? with
  | none => rw [hx] at h; cases h
  | some y => rw [hx] at h; simp only [Option.getD_some] at h; rw [h]
theorem be_getD {β : Be} {n : Nat} {p : Pl} (h : β[n]? = some (some p)) : β.getD n none = some p := by rw [List.getD_eq_getElem?_getD, h]; rfl
theorem scM_R {β : Be} {ρ : Rho} : ∀ {t s : Sc} {v : Value}, scM ρ t s → ScR β s v → ScR (beOf β ρ) t v
  | .int k n, .int k' n', v, h, hv => by obtain ⟨rfl, rfl⟩ := h; exact hv
  | .bo b, .bo b', v, h, hv => by have h' : b' = b := h; subst h'; exact hv
  | .st b, .st b', v, h, hv => by have h' : b' = b := h; subst h'; exact hv
  | .nil, .nil, v, h, hv => hv
  | .un, .un, v, h, hv => hv
  | .un, .pt .., v, h, hv => let ⟨_, _, e⟩ := hv; ⟨_, e⟩
  | .un, .int .., _, h, _ => h.elim
  | .un, .bo _, _, h, _ => h.elim
  | .un, .st _, _, h, _ => h.elim
  | .un, .nil, _, h, _ => h.elim
  | .un, .sl .., _, h, _ => h.elim
  | .sl o off len, .nil, v, h, hv => by
    have h' : len = 0 := h
    subst h'
    obtain ⟨a, rfl⟩ := hv
    exact ⟨a, 0, rfl, Nat.le_refl _, Nat.zero_le _, .inl rfl⟩
  | .sl o off len, .sl o' off' len', v, h, hv => by
    obtain ⟨a, cap, rfl, h1, h2, h3⟩ := hv
    simp only [scM] at h
    split at h
    · rename_i n hn
      obtain ⟨rfl, rfl, rfl⟩ := h
      refine ⟨a, cap, rfl, h1, h2, h3.imp id fun ⟨p, hp, r⟩ => ⟨p, ?_, r⟩⟩
      rw [beOf_get β (rho_at hn)]
      dsimp only
      rw [be_getD hp]
    · rename_i n d hn
      obtain ⟨rfl, rfl, rfl⟩ := h
      refine ⟨a, cap, rfl, h1, h2, h3.imp id fun ⟨p, hp, ha, hav⟩ => ⟨{ p with base := p.base + d * p.esz, avail := p.avail - d * p.esz }, ?_, ?_, ?_⟩⟩
      · rw [beOf_get β (rho_at hn)]
        dsimp only
        rw [be_getD hp]
        rfl
      · rw [ha]
        simp only [Option.some.injEq, Addr.mk.injEq, and_true, true_and]
        rw [Nat.add_mul]
        omega
      · dsimp only
        rw [show off + d + cap = (off + cap) + d from by omega, Nat.add_mul] at hav
        omega
    · exact h.elim
  | .pt o k j, .pt o' k' j', v, h, hv => by
    obtain ⟨p, hp, rfl⟩ := hv
    simp only [scM] at h
    split at h
    · rename_i n hn
      obtain ⟨rfl, rfl, rfl⟩ := h
      refine ⟨p, ?_, rfl⟩
      rw [beOf_get β (rho_at hn)]
      dsimp only
      rw [be_getD hp]
    · rename_i n d hn
      obtain ⟨rfl, rfl, rfl⟩ := h
      refine ⟨{ p with base := p.base + d * p.esz, avail := p.avail - d * p.esz }, ?_, ?_⟩
      · rw [beOf_get β (rho_at hn)]
        dsimp only
        rw [be_getD hp]
        rfl
      · simp only [Value.pointer.injEq, Option.some.injEq, Addr.mk.injEq, and_true, true_and]
        rw [Nat.add_mul]
        omega
    · exact h.elim
  | .int .., .un, _, h, _ => h.elim
  | .bo .., .un, _, h, _ => h.elim
  | .st .., .un, _, h, _ => h.elim
  | .nil, .un, _, h, _ => h.elim
  | .sl .., .un, _, h, _ => h.elim
  | .pt .., .un, _, h, _ => h.elim
  | .int .., .bo _, _, h, _ => h.elim
  | .int .., .st _, _, h, _ => h.elim
  | .int .., .nil, _, h, _ => h.elim
  | .int .., .sl .., _, h, _ => h.elim
  | .int .., .pt .., _, h, _ => h.elim
  | .bo _, .int .., _, h, _ => h.elim
  | .bo _, .st _, _, h, _ => h.elim
  | .bo _, .nil, _, h, _ => h.elim
  | .bo _, .sl .., _, h, _ => h.elim
  | .bo _, .pt .., _, h, _ => h.elim
  | .st _, .int .., _, h, _ => h.elim
  | .st _, .bo _, _, h, _ => h.elim
  | .st _, .nil, _, h, _ => h.elim
  | .st _, .sl .., _, h, _ => h.elim
  | .st _, .pt .., _, h, _ => h.elim
  | .nil, .int .., _, h, _ => h.elim
  | .nil, .bo _, _, h, _ => h.elim
  | .nil, .st _, _, h, _ => h.elim
  | .nil, .sl .., _, h, _ => h.elim
  | .nil, .pt .., _, h, _ => h.elim
  | .sl .., .int .., _, h, _ => h.elim
  | .sl .., .bo _, _, h, _ => h.elim
  | .sl .., .st _, _, h, _ => h.elim
  | .sl .., .pt .., _, h, _ => h.elim
  | .pt .., .int .., _, h, _ => h.elim
  | .pt .., .bo _, _, h, _ => h.elim
  | .pt .., .st _, _, h, _ => h.elim
  | .pt .., .nil, _, h, _ => h.elim
  | .pt .., .sl .., _, h, _ => h.elim
theorem cM_R {β : Be} {ρ : Rho} : ∀ {t s : List Sc} {vs : List Value}, cM ρ t s → L2 (ScR β) s vs → L2 (ScR (beOf β ρ)) t vs
  | [], [], [], _, _ => trivial
  | a :: l, b :: m, v :: vs, h, hv => ⟨scM_R h.1 hv.1, cM_R h.2 hv.2⟩
  | [], _ :: _, _, h, _ => h.elim
  | _ :: _, [], _, h, _ => h.elim
  | [], [], _ :: _, _, h => h.elim
  | _ :: _, _ :: _, [], _, h => h.elim
theorem coM_R {β : Be} {ρ : Rho} {t s : Co} {v : Value} (h : coM ρ t s) (hv : CoR β s v) : CoR (beOf β ρ) t v := by
  cases t <;> cases s
  · exact scM_R h hv
  · exact h.elim
  · exact h.elim
  · obtain ⟨vs, rfl, hl⟩ := hv
    exact ⟨vs, rfl, cM_R h hl⟩
theorem tuM_R {β : Be} {ρ : Rho} : ∀ {t s : List Co} {vs : List Value}, tuM ρ t s → L2 (CoR β) s vs → L2 (CoR (beOf β ρ)) t vs
  | [], [], [], _, _ => trivial
  | a :: l, b :: m, v :: vs, h, hv => ⟨coM_R h.1 hv.1, tuM_R h.2 hv.2⟩
  | [], _ :: _, _, h, _ => h.elim
  | _ :: _, [], _, h, _ => h.elim
  | [], [], _ :: _, _, h => h.elim
  | _ :: _, _ :: _, [], _, h => h.elim
theorem avM_R {β : Be} {ρ : Rho} {t s : AV} {v : Value} (h : avM ρ t s) (hv : AVR β s v) : AVR (beOf β ρ) t v := by
  cases t <;> cases s <;> try exact h.elim
  · exact scM_R h hv
  · obtain ⟨vs, rfl, hl⟩ := hv
    exact ⟨vs, rfl, cM_R h hl⟩
  · obtain ⟨vs, rfl, hl⟩ := hv
    exact ⟨vs, rfl, tuM_R h hl⟩
  · obtain ⟨rfl, h⟩ := h
    obtain ⟨vs, rfl, hl⟩ := hv
    exact ⟨vs, rfl, cM_R h hl⟩
theorem avsM_R {β : Be} {ρ : Rho} : ∀ {t s : List AV} {vs : List Value}, avsM ρ t s → L2 (AVR β) s vs → L2 (AVR (beOf β ρ)) t vs
  | [], [], [], _, _ => trivial
  | a :: l, b :: m, v :: vs, h, hv => ⟨avM_R h.1 hv.1, avsM_R h.2 hv.2⟩
  | [], _ :: _, _, h, _ => h.elim
  | _ :: _, [], _, h, _ => h.elim
  | [], [], _ :: _, _, h => h.elim
  | _ :: _, _ :: _, [], _, h => h.elim
theorem cM_length {ρ : Rho} : ∀ {t s : List Sc}, cM ρ t s → t.length = s.length
  | [], [], _ => rfl
  | _ :: _, _ :: _, h => by simp [cM_length h.2]
  | [], _ :: _, h => h.elim
  | _ :: _, [], h => h.elim
theorem cM_get {ρ : Rho} : ∀ {t s : List Sc} {i : Nat} {x : Sc}, cM ρ t s → t[i]? = some x → ∃ y, s[i]? = some y ∧ scM ρ x y
  | [], [], i, x, _, h => by simp at h
  | a :: l, b :: m, 0, x, hm, h => by simp at h; subst h; exact ⟨b, by simp, hm.1⟩
  | a :: l, b :: m, i + 1, x, hm, h => by simp at h; obtain ⟨y, hy, hr⟩ := cM_get hm.2 h; exact ⟨y, by simpa using hy, hr⟩
  | [], _ :: _, _, _, hm, _ => hm.elim
  | _ :: _, [], _, _, hm, _ => hm.elim
theorem csM_get {ρ : Rho} : ∀ {t s : List (List Sc)} {i : Nat} {x : List Sc}, csM ρ t s → t[i]? = some x → ∃ y, s[i]? = some y ∧ cM ρ x y
  | [], [], i, x, _, h => by simp at h
  | a :: l, b :: m, 0, x, hm, h => by simp at h; subst h; exact ⟨b, by simp, hm.1⟩
  | a :: l, b :: m, i + 1, x, hm, h => by simp at h; obtain ⟨y, hy, hr⟩ := csM_get hm.2 h; exact ⟨y, by simpa using hy, hr⟩
  | [], _ :: _, _, _, hm, _ => hm.elim
  | _ :: _, [], _, _, hm, _ => hm.elim
theorem flat_R {β β' : Be} {s : Sc} {v : Value} (hf : s.isFlat = true) (h : ScR β s v) : ScR β' s v := by
  cases s <;> first | exact h | cases hf
end Go.Proofs.YtoghbjbfldlfpaaGreat
