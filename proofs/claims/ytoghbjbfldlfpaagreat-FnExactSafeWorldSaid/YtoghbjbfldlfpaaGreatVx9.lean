/-
  VX, part 9: every operation at once; calls; pieces of code; a machine that runs them on abstract states.
-/
import Derived.Test.YtoghbjbfldlfpaaGreatVx8
namespace Go.Proofs.YtoghbjbfldlfpaaGreat
open Go.RowKit
set_option linter.unusedVariables false
set_option linter.unusedSimpArgs false

theorem aop_sound {P : Program} {β : Be} {s : S} {a : Act} {w : World} {o : Oper} {r : OpR} {ty : TypeId} (hs : HSim β s.hp w) (hsl : SlotsR β s.sl a.tmps) (h : aop P s ty o.op = some r) (hc : r.c) : Good β s r w ((execOp a.eval o).run P w) := by
  generalize ho : o.op = op at h
  cases op with
  | move x => exact op_move hs hsl x (.inl ho) h
  | assign x => exact op_move (ty := ty) hs hsl x (.inr ho) (by simpa only [aop] using h)
  | pick c x y => exact op_pick hs hsl c x y ho h
  | alloc e => exact op_alloc hs e ho h
  | box e x => exact op_box hs hsl e x ho h
  | build t parts => exact op_build hs hsl t parts ho h
  | buildSlice t len parts => exact op_buildSlice hs hsl t len parts ho h
  | load t x => exact op_load hs hsl t x ho h
  | store t x y => exact op_store hs hsl t x y ho h
  | nilCheck x => exact op_nilCheck hs hsl x ho h
  | binOp op t x y u => exact op_bin hs hsl op t u x y ho h hc
  | unOp op t x => exact op_un hs hsl op t x ho h
  | convert src dst x => exact op_convert hs hsl src dst x ho h hc
  | makeSlice t x y => exact op_makeSlice hs hsl t x y ho h hc
  | slice t x lo hi mx =>
    cases mx with
    | none => exact op_slice hs hsl t x lo hi ho h hc
    | some m => simp only [aop] at h; cases h
  | fieldAddr t x f => exact op_fieldAddr hs hsl t x f ho h
  | indexAddr t x i => exact op_indexAddr hs hsl t x i ho h hc
  | index t x i => exact op_index hs hsl t x i ho h hc
  | extract x i => exact op_extract hs hsl x i ho h
  | makeFunc f first caps =>
    cases f with
    | func f => exact op_makeFunc hs hsl f first caps ho h
    | _ => simp only [aop] at h; cases h
  | call c =>
    obtain ⟨callee, args, at_⟩ := c
    cases callee with
    | builtin b =>
      cases b with
      | len => exact op_len hs hsl args at_ ho h
      | append => exact op_append hs hsl args at_ ho h hc
      | min => exact op_min hs hsl args at_ ho h
      | max => exact op_max hs hsl args at_ ho h
      | _ => simp only [aop] at h; cases h
    | _ => simp only [aop] at h; cases h
  | _ => simp only [aop] at h; cases h

/-- Where a call began. -/
structure Entry where
  β : Be
  h : Hp
  w : World
structure Sim (E : Entry) (β : Be) (s : S) (a : Act) (w : World) : Prop where
  dfr : a.defers = []
  sl : SlotsR β s.sl a.tmps
  hp : HSim β s.hp w
  ent : E.β.length = E.h.length
  st : StepR E.β β E.h s.hp E.w w

/-- f has a body that a call enters. -/
def Enters (P : Program) (f : FuncId) : Prop := ∃ fn, P.funcs[f]? = some fn ∧ (fn.name == "runtime.NumGoroutine") = false ∧ fn.body.isNone = false
/-- A contract: at abstract arguments and an abstract heap the call comes back with this result and this heap. -/
def CallA (P : Program) (f : FuncId) (args : List AV) (h : Hp) (res : AV) (h' : Hp) : Prop :=
  Enters P f ∧ ∀ β w vs, HSim β h w → L2 (AVR β) args vs → Calls P f vs.toArray w fun e w' => ∃ β' v, e = .returned v ∧ AVR β' res v ∧ HSim β' h' w' ∧ StepR β β' h h' w w'

def S.evs (s : S) : List Operand → Option (List AV)
  | [] => some []
  | x :: r => match s.ev x, s.evs r with
    | some v, some l => some (v :: l)
    | _, _ => none
theorem evs_R {β : Be} {s : S} {a : Act} (hs : SlotsR β s.sl a.tmps) : ∀ {xs : List Operand} {l : List AV}, s.evs xs = some l → L2 (AVR β) l (xs.map a.eval)
  | [], l, h => by simp only [S.evs, Option.some.injEq] at h; subst h; trivial
  | x :: r, l, h => by
    simp only [S.evs] at h
    split at h
    · rename_i v m hv hm
      simp only [Option.some.injEq] at h
      subst h
      exact ⟨ev_R hs hv, evs_R hs hm⟩
    · cases h
def scAll : List Sc → List AV
  | [] => []
  | c :: r => .sc c :: scAll r
theorem scAll_R {β : Be} : ∀ {l : List Sc} {vs : List Value}, L2 (ScR β) l vs → L2 (AVR β) (scAll l) vs
  | [], [], _ => trivial
  | _ :: _, _ :: _, h => ⟨h.1, scAll_R h.2⟩
  | [], _ :: _, h => h.elim
  | _ :: _, [], h => h.elim

/-- What an operation's guard says. -/
def guardOf (r : Array Oper) (s : S) (o : Oper) : Option Bool :=
  match o.guard with
  | none => some true
  | some (j, want) => match r[j]? with
    | some oj => match oj.dst with
      | some d => match s.sl.get d with
        | some (.sc (.bo b)) => some (b == want)
        | some (.tu []) => some false
        | _ => none
      | none => none
    | none => none
theorem guard_R {β : Be} {r : Array Oper} {s : S} {a : Act} {o : Oper} {b : Bool} (hs : SlotsR β s.sl a.tmps) (h : guardOf r s o = some b) : Region.wanted o (yielded r a.tmps) = b := by
  unfold guardOf at h
  unfold Region.wanted
  split at h
  · rename_i hg
    simp only [Option.some.injEq] at h
    subst h
    rw [hg]
  · rename_i j want hg
    rw [hg]
    dsimp only
    split at h
    · rename_i oj hj
      split at h
      · rename_i d hd
        split at h
        · rename_i x hx
          obtain ⟨u, hu, hr⟩ := hs.2 d _ hx
          have hu' : u = .bool x := hr
          subst hu'
          simp only [Option.some.injEq] at h
          subst h
          simp only [yielded, hj, hd, Option.bind_some, hu]
          cases x <;> cases want <;> rfl
        · rename_i hx
          obtain ⟨u, hu, vs, hr, hl⟩ := hs.2 d _ hx
          simp only [Option.some.injEq] at h
          subst h
          cases vs with
          | nil =>
            subst hr
            simp [yielded, hj, hd, hu]
          | cons => exact hl.elim
        · cases h
      · cases h
    · cases h

/-- A list of operations run from s ends in a state of K. -/
def DenL (P : Program) (E : Entry) (r : Array Oper) (l : List Oper) (s : S) (K : S → Prop) : Prop :=
  ∀ β a w, Sim E β s a w → ∀ Q : Exit → Act → World → Prop, (∀ s' β' a' w', K s' → Sim E β' s' a' w' → Q .normal a' w') → wpList P r Q l a w
def Den (P : Program) (E : Entry) (C : Code) (s : S) (K : Exit → S → Prop) : Prop :=
  ∀ β a w, Sim E β s a w → ∀ Q : Exit → Act → World → Prop, (∀ e s' β' a' w', K e s' → Sim E β' s' a' w' → Q e a' w') → C.wp P Q a w

theorem sim_put {E : Entry} {β β' : Be} {s : S} {a : Act} {w w' : World} {h' : Hp} (hs : Sim E β s a w) (hst : StepR β β' s.hp h' w w') (hh : HSim β' h' w') (d : Option Tmp) {av : AV} {v : Value} (hv : AVR β' av v) :
    Sim E β' (s.put d (some av) h') (a.put d v) w' := by
  have hstep : StepR E.β β' E.h h' E.w w' := StepR.trans hs.ent hs.hp.len hs.st hst
  cases d with
  | none => exact ⟨hs.dfr, hs.sl.mono hst.le, hh, hs.ent, hstep⟩
  | some d => exact ⟨hs.dfr, (hs.sl.mono hst.le).put d hv, hh, hs.ent, hstep⟩
theorem sim_putNone {E : Entry} {β β' : Be} {s : S} {a : Act} {w w' : World} {h' : Hp} (hs : Sim E β s a w) (hst : StepR β β' s.hp h' w w') (hh : HSim β' h' w') (d : Option Tmp) (v : Value) :
    Sim E β' (s.put d none h') (a.put d v) w' := by
  have hstep : StepR E.β β' E.h h' E.w w' := StepR.trans hs.ent hs.hp.len hs.st hst
  cases d with
  | none => exact ⟨hs.dfr, hs.sl.mono hst.le, hh, hs.ent, hstep⟩
  | some d => exact ⟨hs.dfr, (hs.sl.mono hst.le).putNone d v, hh, hs.ent, hstep⟩
theorem wpList_run {P : Program} {ops : Array Oper} {Q : Exit → Act → World → Prop} {o : Oper} {l : List Oper} {a : Act} {w : World} (hg : Region.wanted o (yielded ops a.tmps) = true) (h : o.wp P a w (wpList P ops Q l) Q) : wpList P ops Q (o :: l) a w := by
  unfold wpList
  rw [if_pos hg]
  exact .inl h
theorem wpList_skip {P : Program} {ops : Array Oper} {Q : Exit → Act → World → Prop} {o : Oper} {l : List Oper} {a : Act} {w : World} (hg : Region.wanted o (yielded ops a.tmps) = false) (h : wpList P ops Q l (a.put o.dst undef) w) : wpList P ops Q (o :: l) a w := by
  unfold wpList
  rw [if_neg (by simp [hg])]
  exact h
theorem denL_nil {P : Program} {E : Entry} {r : Array Oper} {s : S} {K : S → Prop} (h : K s) : DenL P E r [] s K := fun β a w hs Q hQ => hQ s β a w h hs
theorem denL_op {P : Program} {E : Entry} {r : Array Oper} {o : Oper} {l : List Oper} {s : S} {K : S → Prop} {x : OpR} (hg : guardOf r s o = some true) (h : aop P s o.type o.op = some x) (hc : x.c) (hk : DenL P E r l (s.put o.dst x.v x.hp) K) : DenL P E r (o :: l) s K := by
  intro β a w hs Q hQ
  refine wpList_run (guard_R hs.sl hg) ?_
  unfold Oper.wp
  obtain ⟨β', w', hst, hh, hx⟩ := aop_sound hs.hp hs.sl h hc
  rcases hx with ⟨v, av, hrun, hv, hr⟩ | ⟨hrun, hv⟩
  · rw [hrun]
    rw [hv] at hk
    exact hk β' _ w' (sim_put hs hst hh o.dst hr) Q hQ
  · rw [hrun]
    rw [hv] at hk
    exact hk β' _ w' (sim_putNone hs hst hh o.dst undef) Q hQ
theorem denL_skip {P : Program} {E : Entry} {r : Array Oper} {o : Oper} {l : List Oper} {s : S} {K : S → Prop} (hg : guardOf r s o = some false) (hk : DenL P E r l (s.put o.dst (some (.tu [])) s.hp) K) : DenL P E r (o :: l) s K := by
  intro β a w hs Q hQ
  refine wpList_skip (guard_R hs.sl hg) ?_
  exact hk β _ w (sim_put hs (StepR.refl β s.hp w hs.hp.len) hs.hp o.dst ⟨[], rfl, trivial⟩) Q hQ
theorem denL_call {P : Program} {E : Entry} {r : Array Oper} {o : Oper} {l : List Oper} {s : S} {K : S → Prop} {x : Operand} {args : Array Operand} {at_ : Array TypeId} {f : Nat} {caps : List Sc} {avs : List AV} {res : AV} {h' : Hp}
    (hg : guardOf r s o = some true) (ho : o.op = .call ⟨.value x, args, at_⟩) (hx : s.ev x = some (.cl f caps)) (ha : s.evs args.toList = some avs) (hc : CallA P f (avs ++ scAll caps) s.hp res h')
    (hk : DenL P E r l (s.put o.dst (some res) h') K) : DenL P E r (o :: l) s K := by
  intro β a w hs Q hQ
  refine wpList_run (guard_R hs.sl hg) ?_
  obtain ⟨⟨fn, hfn, hname, hbody⟩, hcall⟩ := hc
  obtain ⟨cvs, hxe, hcl⟩ : AVR β (.cl f caps) (a.eval x) := ev_R hs.sl hx
  have hav := evs_R hs.sl ha
  have hvs : L2 (AVR β) (avs ++ scAll caps) (args.toList.map a.eval ++ cvs) := hav.append (scAll_R hcl)
  have hrun : (execOp a.eval o).run P w = .ok (.enter f (args.toList.map a.eval ++ cvs).toArray) w := by
    unfold execOp
    rw [ho]
    have e1 : args.map a.eval = (args.toList.map a.eval).toArray := by apply Array.ext'; simp
    have hname' : ¬ fn.name = "runtime.NumGoroutine" := by simpa using hname
    simp only [resolve, hxe, Deferred.ofValue, invoke, callFunc, Sem.run_bind, run_program, Sem.run_pure, Result.andThen_ok, hfn, e1]
    simp [hname', hbody]
  unfold Oper.wp
  rw [hrun]
  rw [Oper.upon_enter]
  refine (hcall β w _ hs.hp hvs).mono fun e w' ⟨β', v, he, hr, hh, hst⟩ => ?_
  subst he
  exact hk β' _ w' (sim_put hs hst hh o.dst hr) Q hQ

/-! ### The stack -/
inductive Item where
  | code (c : Code)
  | ops (r : Array Oper) (l : List Oper)
  | inB (id : Nat)
  | hook (N : S → Prop)
def KK (P : Program) (E : Entry) (F : Exit → S → Prop) : List Item → Exit → S → Prop
  | [], e, s => F e s
  | .code c :: k, .normal, s => Den P E c s (KK P E F k)
  | .code _ :: k, e, s => KK P E F k e s
  | .ops r l :: k, .normal, s => DenL P E r l s (KK P E F k .normal)
  | .ops _ _ :: k, e, s => KK P E F k e s
  | .inB id :: k, .exit id', s => if id' = id then KK P E F k .normal s else KK P E F k (.exit id') s
  | .inB _ :: k, e, s => KK P E F k e s
  | .hook N :: k, .normal, s => N s
  | .hook _ :: k, e, s => KK P E F k e s
theorem den_mono {P : Program} {E : Entry} {C : Code} {s : S} {K K' : Exit → S → Prop} (h : Den P E C s K) (hk : ∀ e s, K e s → K' e s) : Den P E C s K' :=
  fun β a w hs Q hQ => h β a w hs Q fun e s' β' a' w' hK => hQ e s' β' a' w' (hk _ _ hK)
theorem den_skip {P : Program} {E : Entry} {s : S} {K : Exit → S → Prop} (h : K .normal s) : Den P E .skip s K := fun β a w hs Q hQ => wp_skip (hQ .normal s β a w h hs)
theorem den_ret {P : Program} {E : Entry} {s : S} {K : Exit → S → Prop} (h : K .ret s) : Den P E .ret s K := fun β a w hs Q hQ => wp_ret (hQ .ret s β a w h hs)
theorem den_exit {P : Program} {E : Entry} {s : S} {id : Nat} {K : Exit → S → Prop} (h : K (.exit id) s) : Den P E (.exit id) s K := fun β a w hs Q hQ => wp_exit (hQ (.exit id) s β a w h hs)
theorem den_seq {P : Program} {E : Entry} {x y : Code} {s : S} {K : Exit → S → Prop} (h : Den P E x s fun e s' => match e with | .normal => Den P E y s' K | e => K e s') : Den P E (.seq x y) s K :=
  fun β a w hs Q hQ => wp_seq (h β a w hs _ fun e s' β' a' w' hK hs' => by
    cases e with
    | normal => exact hK β' a' w' hs' Q hQ
    | _ => exact hQ _ s' β' a' w' hK hs')
theorem den_cond {P : Program} {E : Entry} {t : Operand} {x y : Code} {s : S} {b : Bool} {K : Exit → S → Prop} (ht : s.ev t = some (.sc (.bo b))) (h : Den P E (if b then x else y) s K) : Den P E (.cond t x y) s K :=
  fun β a w hs Q hQ => wp_cond (t := b) (show a.eval t = .bool b from ev_R hs.sl ht) (h β a w hs Q hQ)
theorem den_block {P : Program} {E : Entry} {id : Nat} {x : Code} {s : S} {K : Exit → S → Prop} (h : Den P E x s fun e s' => match e with | .exit id' => if id' = id then K .normal s' else K (.exit id') s' | e => K e s') : Den P E (.block id x) s K :=
  fun β a w hs Q hQ => wp_block (h β a w hs _ fun e s' β' a' w' hK hs' => by
    cases e with
    | exit id' =>
      simp only [Exit.inBlock]
      dsimp only at hK
      split at hK
      · rename_i he; rw [if_pos he]; exact hQ _ s' β' a' w' hK hs'
      · rename_i he; rw [if_neg he]; exact hQ _ s' β' a' w' hK hs'
    | _ => exact hQ _ s' β' a' w' hK hs')
theorem den_region {P : Program} {E : Entry} {id : Nat} {r : Array Oper} {s : S} {K : Exit → S → Prop} (h : DenL P E r r.toList s (K .normal)) : Den P E (.region id r false) s K :=
  fun β a w hs Q hQ => wp_region_list (h β a w hs Q fun s' β' a' w' hK hs' => hQ .normal s' β' a' w' hK hs')
/-- A loop, by a family of states and a measure. -/
theorem den_loop {P : Program} {E : Entry} {c : Code} {s : S} {K : Exit → S → Prop} (I : S → Prop) (μ : S → Nat → Prop) (n₀ : Nat) (h0 : I s ∧ μ s n₀)
    (h : ∀ s n, I s → μ s n → Den P E c s fun e s' => match e with | .normal => I s' ∧ ∃ m, m < n ∧ μ s' m | e => K e s') : Den P E (.loop c) s K := by
  intro β a w hs Q hQ b k cs
  have key : ∀ (n : Nat) (s : S) (β : Be) (a : Act) (w : World), I s → μ s n → Sim E β s a w →
      ∃ e a' w', Q e a' w' ∧ Arrives P (lone (b.at a (.code c :: .inLoop c :: k)) cs w) b k cs e a' w' := by
    intro n
    induction n using Nat.strongRecOn with
    | _ n ih =>
      intro s β a w hI hm hs
      obtain ⟨e, a₁, w₁, hq, harr⟩ := h s n hI hm β a w hs (Exit.then (fun a' w' => ∃ s' β' m, I s' ∧ m < n ∧ μ s' m ∧ Sim E β' s' a' w') Q) (fun e s' β' a' w' hK hs' => by
        cases e with
        | normal =>
          obtain ⟨hI', m, hlt, hm'⟩ := hK
          exact ⟨s', β', m, hI', hlt, hm', hs'⟩
        | _ => exact hQ _ s' β' a' w' hK hs') b (.inLoop c :: k) cs
      cases e with
      | normal =>
        obtain ⟨s', β', m, hI', hlt, hm', hs'⟩ := hq
        obtain ⟨e₂, a₂, w₂, hq₂, harr₂⟩ := ih m hlt s' β' a₁ w₁ hI' hm' hs'
        exact ⟨e₂, a₂, w₂, hq₂, .of_steps (Steps.trans harr (.one step_inLoop)) harr₂⟩
      | exit id => exact ⟨_, a₁, w₁, hq, .pass (x := .inLoop c) rfl (fun _ _ => .inl (by simp)) harr⟩
      | goto l => exact ⟨_, a₁, w₁, hq, .pass (x := .inLoop c) rfl (fun _ _ => .inl (by simp)) harr⟩
      | ret => exact ⟨_, a₁, w₁, hq, .pass (x := .inLoop c) rfl (fun _ _ => .inl (by simp)) harr⟩
      | panic ch => exact ⟨_, a₁, w₁, hq, .pass (x := .inLoop c) rfl (fun _ _ => .inl (by simp)) harr⟩
      | outgrown => exact ⟨_, a₁, w₁, hq, .pass (x := .inLoop c) rfl (fun _ _ => .inl (by simp)) harr⟩
  obtain ⟨e, a', w', hq, harr⟩ := key n₀ s β a w h0.1 h0.2 hs
  exact ⟨e, a', w', hq, .of_steps (.one step_loop) harr⟩
end Go.Proofs.YtoghbjbfldlfpaaGreat
