/-
  VX, part 16: a region that draws its order: every order comes to what one order comes to.
-/
import Derived.Test.YtoghbjbfldlfpaaGreatVx15
namespace Go.Proofs.YtoghbjbfldlfpaaGreat
open Go.RowKit
set_option linter.unusedVariables false
set_option linter.unusedSimpArgs false

/-- A step, in the world. -/
theorem stepN_wp {P : Program} {E : Entry} {r : Array Oper} {i : Nat} {s s1 : S} {β : Be} {a : Act} {w : World} {Q : Exit → Act → World → Prop} {K : Act → World → Prop} (h : StepN P r i s s1) (hs : Sim E β s a w) (hK : ∀ β' a' w', Sim E β' s1 a' w' → K a' w') : wpOp P r Q i K a w := by
  unfold wpOp
  unfold StepN at h
  split at h
  · rename_i hi
    subst h
    rw [hi]
    exact hK β a w hs
  · rename_i o ho
    rw [ho]
    dsimp only
    split at h
    · rename_i hg
      rw [if_pos (guard_R hs.sl hg)]
      refine .inl ?_
      unfold Oper.wp
      rcases h with ⟨x, hx, hc, rfl⟩ | ⟨y, args, at_, f, caps, avs, res, h', hop, hy, ha, ⟨⟨fn, hfn, hname, hbody⟩, hcall⟩, _, rfl⟩
      · obtain ⟨β', w', hst, hh, hx'⟩ := aop_sound hs.hp hs.sl hx hc
        rcases hx' with ⟨v, av, hrun, hv, hr⟩ | ⟨hrun, hv⟩
        · rw [hrun]
          rw [hv] at hK
          exact hK β' _ w' (sim_put hs hst hh o.dst hr)
        · rw [hrun]
          rw [hv] at hK
          exact hK β' _ w' (sim_putNone hs hst hh o.dst undef)
      · obtain ⟨cvs, hxe, hcl⟩ : AVR β (.cl f caps) (a.eval y) := ev_R hs.sl hy
        have hav := evs_R hs.sl ha
        have hvs : L2 (AVR β) (avs ++ scAll caps) (args.toList.map a.eval ++ cvs) := hav.append (scAll_R hcl)
        have hrun : (execOp a.eval o).run P w = .ok (.enter f (args.toList.map a.eval ++ cvs).toArray) w := by
          unfold execOp
          rw [hop]
          have e1 : args.map a.eval = (args.toList.map a.eval).toArray := by apply Array.ext'; simp
          have hname' : ¬ fn.name = "runtime.NumGoroutine" := by simpa using hname
          simp only [resolve, hxe, Deferred.ofValue, invoke, callFunc, Sem.run_bind, run_program, Sem.run_pure, Result.andThen_ok, hfn, e1]
          simp [hname', hbody]
        rw [hrun, Oper.upon_enter]
        refine (hcall β w _ hs.hp hvs).mono fun e w' ⟨β', v, he, hr, hh, hst⟩ => ?_
        subst he
        exact hK β' _ w' (sim_put hs hst hh o.dst hr)
    · rename_i hg
      rw [guard_R hs.sl hg]
      subst h
      exact hK β _ w (sim_put hs (StepR.refl β s.hp w hs.hp.len) hs.hp o.dst ⟨[], rfl, trivial⟩)
    · exact h.elim

/-! ### Dependencies -/
def clo1 (T : List Nat) (o : Oper) : Nat := o.after.toList.foldl (fun m e => if Region.binds .any e then m ||| (1 <<< e.on) ||| T.getD e.on 0 else m) 0
def cloT : List Oper → List Nat → List Nat
  | [], T => T
  | o :: l, T => cloT l (T ++ [clo1 T o])
def clo (r : Array Oper) : List Nat := cloT r.toList []
/-- Each operation waits for earlier ones alone. -/
def backB (r : Array Oper) : Bool := (List.range r.size).all fun i => match r[i]? with
  | some o => o.after.toList.all fun e => !Region.binds .any e || decide (e.on < i)
  | none => true
theorem fold_bit (T : List Nat) (p : Nat) : ∀ (l : List Edge) (m : Nat), (l.foldl (fun m e => if Region.binds .any e then m ||| (1 <<< e.on) ||| T.getD e.on 0 else m) m).testBit p = true ↔
    m.testBit p = true ∨ ∃ e ∈ l, Region.binds .any e = true ∧ (e.on = p ∨ (T.getD e.on 0).testBit p = true)
  | [], m => by simp
  | e :: l, m => by
    rw [List.foldl_cons, fold_bit T p l]
    cases hb : Region.binds .any e
    · simp [hb]
    · simp only [if_true, Nat.testBit_or, Bool.or_eq_true, Nat.one_shiftLeft, Nat.testBit_two_pow, decide_eq_true_eq, List.mem_cons, exists_eq_or_imp, hb, true_and]
      constructor
      · rintro (((h | h) | h) | h)
        · exact .inl h
        · exact .inr (.inl (.inl h))
        · exact .inr (.inl (.inr h))
        · exact .inr (.inr h)
      · rintro (h | (h | h) | h)
        · exact .inl (.inl (.inl h))
        · exact .inl (.inl (.inr h))
        · exact .inl (.inr h)
        · exact .inr h
theorem cloT_old : ∀ (l : List Oper) (T : List Nat) (i : Nat), i < T.length → (cloT l T)[i]? = T[i]?
  | [], T, i, _ => rfl
  | o :: l, T, i, h => by
    rw [cloT, cloT_old l _ i (by simp; omega), List.getElem?_append_left h]
theorem cloT_new : ∀ (l : List Oper) (T : List Nat) (j : Nat) (o : Oper), l[j]? = some o → ∃ T', (cloT l T)[T.length + j]? = some (clo1 T' o) ∧ T'.length = T.length + j ∧ ∀ k, k < T.length + j → T'[k]? = (cloT l T)[k]?
  | [], T, j, o, h => by simp at h
  | o' :: l, T, 0, o, h => by
    simp at h
    subst h
    refine ⟨T, ?_, by simp, fun k hk => ?_⟩
    · rw [cloT, cloT_old l _ _ (by simp)]
      simp
    · rw [cloT, cloT_old l _ _ (by simp; omega), List.getElem?_append_left (by omega)]
  | o' :: l, T, j + 1, o, h => by
    obtain ⟨T', h1, h2, h3⟩ := cloT_new l (T ++ [clo1 T o']) j o (by simpa using h)
    simp only [List.length_append, List.length_cons, List.length_nil] at h1 h2 h3
    refine ⟨T', ?_, by omega, fun k hk => ?_⟩
    · rw [cloT, show T.length + (j + 1) = T.length + (0 + 1) + j from by omega]; exact h1
    · rw [cloT]; exact h3 k (by omega)
theorem clo_spec {r : Array Oper} {i : Nat} {o : Oper} (ho : r[i]? = some o) (p : Nat) : ((clo r).getD i 0).testBit p = true ↔ ∃ e ∈ o.after.toList, Region.binds .any e = true ∧ (e.on = p ∨ (e.on < i ∧ ((clo r).getD e.on 0).testBit p = true)) := by
  obtain ⟨T', h1, h2, h3⟩ := cloT_new r.toList [] i o (by simpa using ho)
  simp only [List.length_nil, Nat.zero_add] at h1 h2 h3
  have e1 : (clo r).getD i 0 = clo1 T' o := by unfold clo; rw [List.getD_eq_getElem?_getD, h1]; rfl
  rw [e1]
  unfold clo1
  rw [fold_bit]
  simp only [Nat.zero_testBit, Bool.false_eq_true, false_or]
  constructor
  · rintro ⟨e, he, hb, h⟩
    refine ⟨e, he, hb, h.imp id fun h => ?_⟩
    rcases Nat.lt_or_ge e.on i with hlt | hge
    · refine ⟨hlt, ?_⟩
      rw [List.getD_eq_getElem?_getD, h3 _ hlt] at h
      rw [List.getD_eq_getElem?_getD]
      exact h
    · rw [List.getD_eq_getElem?_getD, List.getElem?_eq_none (by omega)] at h
      simp at h
  · rintro ⟨e, he, hb, h⟩
    refine ⟨e, he, hb, h.imp id fun ⟨hlt, h⟩ => ?_⟩
    rw [List.getD_eq_getElem?_getD, h3 _ hlt]
    rw [List.getD_eq_getElem?_getD] at h
    exact h
/-- All that listed operations wait for is listed. -/
def Closed (r : Array Oper) (listed : Array Bool) : Prop := ∀ (i : Nat) (o : Oper), r[i]? = some o → listed.getD i false = true → ∀ e ∈ o.after.toList, Region.binds .any e = true → listed.getD e.on false = true
theorem clo_listed {r : Array Oper} {listed : Array Bool} (hc : Closed r listed) : ∀ (i : Nat) (o : Oper), r[i]? = some o → (∀ e ∈ o.after.toList, Region.binds .any e = true → listed.getD e.on false = true) → ∀ p, ((clo r).getD i 0).testBit p = true → listed.getD p false = true := by
  intro i
  induction i using Nat.strongRecOn with
  | _ i ih =>
    intro o ho ha p hp
    obtain ⟨e, he, hb, h⟩ := (clo_spec ho p).1 hp
    rcases h with rfl | ⟨hlt, h⟩
    · exact ha e he hb
    · have hl := ha e he hb
      cases hr : r[e.on]? with
      | none =>
        exfalso
        have hn : (clo r)[e.on]? = none := by
          rw [Array.getElem?_eq_none_iff] at hr
          have hlt2 := (Array.getElem?_eq_some_iff.1 ho).1
          omega
        rw [List.getD_eq_getElem?_getD, hn] at h
        simp at h
      | some oj => exact ih e.on hlt oj hr (hc e.on oj hr hl) p h

/-! ### Orders -/
/-- p stands ahead of q. -/
def before : List Nat → Nat → Nat → Bool
  | [], p, q => decide (p < q)
  | i :: l, p, q => if i = p then true else if i = q then false else before l p q
theorem before_total {p q : Nat} (hne : p ≠ q) : ∀ {l : List Nat}, before l p q = true ∨ before l q p = true
  | [] => by simp only [before, decide_eq_true_eq]; omega
  | i :: l => by
    simp only [before]
    by_cases h1 : i = p
    · exact .inl (by rw [if_pos h1])
    · by_cases h2 : i = q
      · exact .inr (by rw [if_pos h2])
      · rw [if_neg h1, if_neg h2, if_neg h2, if_neg h1]
        exact before_total hne
/-- In this order, of any two the second waits for the first, or they may be swapped; and none waits for a later one. -/
def okP (P : Program) (r : Array Oper) (T : List Nat) (ex : List (Nat × Nat)) (p q : Nat) : Bool :=
  p != q && !(T.getD p 0).testBit q &&
  ((T.getD q 0).testBit p || ex.contains (p, q) || match r[p]?, r[q]? with
    | some x, some y => indepB P r x y || indepC P r x y
    | _, _ => false)
def okL (P : Program) (r : Array Oper) (T : List Nat) (ex : List (Nat × Nat)) : List Nat → Bool
  | [] => true
  | p :: l => l.all (okP P r T ex p) && okL P r T ex l
theorem okL_drop {P : Program} {r : Array Oper} {T : List Nat} {ex : List (Nat × Nat)} {i : Nat} : ∀ {l m : List Nat}, okL P r T ex (l ++ i :: m) = true → okL P r T ex (l ++ m) = true
  | [], m, h => by simp only [List.nil_append, okL, Bool.and_eq_true] at h ⊢; exact h.2
  | p :: l, m, h => by
    simp only [List.cons_append, okL, Bool.and_eq_true, List.all_eq_true] at h ⊢
    refine ⟨fun q hq => h.1 q ?_, okL_drop h.2⟩
    simp only [List.mem_append, List.mem_cons] at hq ⊢
    exact hq.imp id .inr
theorem okL_at {P : Program} {r : Array Oper} {T : List Nat} {ex : List (Nat × Nat)} {i p : Nat} : ∀ {l m : List Nat}, okL P r T ex (l ++ i :: m) = true → p ∈ l → okP P r T ex p i = true
  | [], m, _, h => by simp at h
  | q :: l, m, h, hp => by
    simp only [List.cons_append, okL, Bool.and_eq_true, List.all_eq_true] at h
    rcases List.mem_cons.1 hp with rfl | hp
    · exact h.1 i (by simp)
    · exact okL_at h.2 hp
theorem okL_head {P : Program} {r : Array Oper} {T : List Nat} {ex : List (Nat × Nat)} {i p : Nat} {l : List Nat} (h : okL P r T ex (i :: l) = true) (hp : p ∈ l) : okP P r T ex i p = true := by
  simp only [okL, Bool.and_eq_true, List.all_eq_true] at h
  exact h.1 p hp
theorem okL_nodup {P : Program} {r : Array Oper} {T : List Nat} {ex : List (Nat × Nat)} : ∀ {l : List Nat}, okL P r T ex l = true → l.Nodup
  | [], _ => List.nodup_nil
  | p :: l, h => by
    refine List.nodup_cons.2 ⟨fun hp => ?_, okL_nodup (by simp only [okL, Bool.and_eq_true] at h; exact h.2)⟩
    have := okL_head h hp
    simp [okP] at this
/-- An operation that may go first goes first. -/
theorem run_front {P : Program} {r : Array Oper} {i : Nat} : ∀ {l m : List Nat} {s s' : S}, (∀ p ∈ l, ∃ x y, r[p]? = some x ∧ r[i]? = some y ∧ (indepB P r x y || indepC P r x y) = true) → RunN P r (l ++ i :: m) s s' → RunN P r (i :: (l ++ m)) s s'
  | [], m, s, s', _, h => h
  | p :: l, m, s, s', hl, h => by
    obtain ⟨s1, h1, h2⟩ := h
    obtain ⟨s2, h3, h4⟩ := run_front (fun q hq => hl q (List.mem_cons_of_mem _ hq)) h2
    obtain ⟨x, y, hx, hy, hind⟩ := hl p (by simp)
    rcases (Bool.or_eq_true _ _).mp hind with hind | hind
    · obtain ⟨s1', h5, h6⟩ := swap hx hy hind h1 h3
      exact ⟨s1', h5, s2, h6, h4⟩
    · obtain ⟨s1', h5, h6⟩ := swapC hx hy hind h1 h3
      exact ⟨s1', h5, s2, h6, h4⟩
/-- A drawn order. -/
def Drawn (r : Array Oper) : Nat → Array Bool → List Nat → Prop
  | fuel, listed, [] => fuel = 0 ∨ Region.ready .any r listed = []
  | 0, _, _ :: _ => False
  | fuel + 1, listed, i :: τ => i ∈ Region.ready .any r listed ∧ Drawn r fuel (listed.setIfInBounds i true) τ
theorem drawn_go {r : Array Oper} : ∀ (fuel t : Nat) (listed : Array Bool), Drawn r fuel listed (Region.linearise.go .any r fuel t listed [])
  | 0, t, listed => by simp [Region.linearise.go, Drawn]
  | fuel + 1, t, listed => by
    simp only [Region.linearise.go]
    change Drawn r (fuel + 1) listed (match (Region.ready .any r listed)[t % (Region.ready .any r listed).length]? with
      | some i => Region.linearise.go .any r fuel (t / (Region.ready .any r listed).length) (listed.setIfInBounds i true) [i]
      | none => [].reverse)
    cases hi : (Region.ready .any r listed)[t % (Region.ready .any r listed).length]? with
    | none =>
      have hnil : Region.ready .any r listed = [] := by
        cases hr : Region.ready .any r listed with
        | nil => rfl
        | cons x xs =>
          rw [hr] at hi
          have hlt : t % (x :: xs).length < (x :: xs).length := Nat.mod_lt _ (by simp)
          simp at hi
          simp at hlt
          omega
      exact .inr hnil
    | some i =>
      simp only []
      rw [linearise_go_acc, List.reverse_singleton, List.singleton_append]
      exact ⟨List.mem_of_getElem? hi, drawn_go fuel _ _⟩
theorem ready_iff {r : Array Oper} {listed : Array Bool} {i : Nat} : i ∈ Region.ready .any r listed ↔ ∃ o, r[i]? = some o ∧ listed.getD i true = false ∧ ∀ e ∈ o.after.toList, Region.binds .any e = true → listed.getD e.on false = true := by
  unfold Region.ready
  simp only [List.mem_filter, List.mem_range, Bool.and_eq_true, Bool.not_eq_true']
  constructor
  · rintro ⟨hlt, h1, h2⟩
    refine ⟨r[i], Array.getElem?_eq_getElem hlt, h1, fun e he hb => ?_⟩
    rw [Array.getElem?_eq_getElem hlt] at h2
    simp only [Option.map_some, Option.getD_some, Array.all_eq_true_iff_forall_mem, Bool.or_eq_true, Bool.not_eq_true'] at h2
    rcases h2 e (by simpa using he) with h | h
    · rw [hb] at h; cases h
    · exact h
  · rintro ⟨o, ho, h1, h2⟩
    refine ⟨(Array.getElem?_eq_some_iff.1 ho).1, h1, ?_⟩
    rw [ho]
    simp only [Option.map_some, Option.getD_some, Array.all_eq_true_iff_forall_mem, Bool.or_eq_true, Bool.not_eq_true']
    intro e he
    cases hb : Region.binds .any e with
    | false => exact .inl rfl
    | true => exact .inr (h2 e (by simpa using he) hb)
theorem set_getD {l : Array Bool} {i j : Nat} {d : Bool} (hi : i < l.size) : (l.setIfInBounds i true).getD j d = if i = j then true else l.getD j d := by
  simp only [Array.getD_eq_getD_getElem?, Array.getElem?_setIfInBounds]
  by_cases h : i = j
  · subst h; simp [hi]
  · simp [h]
/-- What remains of a drawn order has the remaining operations, all of them. -/
theorem drawn_mem {r : Array Oper} {T : List Nat} : ∀ {fuel : Nat} {listed : Array Bool} {τ : List Nat}, Drawn r fuel listed τ → ∀ {i : Nat}, i ∈ τ → i < listed.size → listed.getD i true = false
  | 0, _, _ :: _, h, _, _, _ => h.elim
  | _, _, [], _, i, hi, _ => by simp at hi
  | fuel + 1, listed, j :: τ, h, i, hi, hlt => by
    obtain ⟨hj, h⟩ := h
    obtain ⟨o, ho, h1, _⟩ := ready_iff.1 hj
    rcases List.mem_cons.1 hi with rfl | hi
    · simpa using h1
    · have hjl : j < listed.size := by
        rcases Nat.lt_or_ge j listed.size with h | h
        · exact h
        · rw [Array.getD_eq_getD_getElem?, Array.getElem?_eq_none h] at h1; cases h1
      have := drawn_mem (T := T) h hi (by simpa using hlt)
      rw [set_getD hjl] at this
      by_cases hji : j = i
      · rw [if_pos hji] at this; cases this
      · rwa [if_neg hji] at this
theorem back_lt {r : Array Oper} (h : backB r = true) {i : Nat} {o : Oper} (ho : r[i]? = some o) {e : Edge} (he : e ∈ o.after.toList) (hb : Region.binds .any e = true) : e.on < i := by
  unfold backB at h
  rw [List.all_eq_true] at h
  have := h i (List.mem_range.2 (Array.getElem?_eq_some_iff.1 ho).1)
  rw [ho] at this
  have := (List.all_eq_true.1 this) e he
  rw [hb] at this
  simpa using this
theorem drawn_nil {r : Array Oper} {fuel : Nat} {listed : Array Bool} (h : Drawn r fuel listed []) : fuel = 0 ∨ Region.ready .any r listed = [] := by
  cases fuel <;> exact h
theorem ops_of_run {P : Program} {E : Entry} {r : Array Oper} {Q : Exit → Act → World → Prop} {ex : List (Nat × Nat)} {s' : S} (hback : backB r = true) (hQ : ∀ β' a' w', Sim E β' s' a' w' → Q .normal a' w') :
    ∀ (τ : List Nat) (fuel : Nat) (listed : Array Bool) (σ : List Nat) (s : S) (β : Be) (a : Act) (w : World), Drawn r fuel listed τ → listed.size = r.size → σ.length ≤ fuel → (∀ i, i ∈ σ ↔ i < r.size ∧ listed.getD i true = false) → Closed r listed →
      okL P r (clo r) ex σ = true → (∀ p q, ex.contains (p, q) = true → p ∈ σ → q ∈ σ → before τ p q = true) → RunN P r σ s s' → Sim E β s a w → wpOps P r Q τ a w
  | [], fuel, listed, σ, s, β, a, w, hd, hsz, hf, hm, hc, hok, hx, hrun, hs => by
    have hnil : σ = [] := by
      rcases drawn_nil hd with rfl | hd
      · exact List.length_eq_zero_iff.1 (by omega)
      · cases σ with
        | nil => rfl
        | cons p l =>
          exfalso
          have hp := (hm p).1 (by simp)
          have : p ∈ Region.ready .any r listed := by
            refine ready_iff.2 ⟨r[p], Array.getElem?_eq_getElem hp.1, hp.2, fun e he hb => ?_⟩
            have hbit : ((clo r).getD p 0).testBit e.on = true := (clo_spec (Array.getElem?_eq_getElem hp.1) e.on).2 ⟨e, he, hb, .inl rfl⟩
            have hlt0 := back_lt hback (Array.getElem?_eq_getElem hp.1) he hb
            have hlt : e.on < r.size := Nat.lt_trans hlt0 hp.1
            cases hl : listed.getD e.on false with
            | true => rfl
            | false =>
              exfalso
              have hl' : listed.getD e.on true = false := by
                rw [Array.getD_eq_getD_getElem?, Array.getElem?_eq_getElem (by omega)] at hl ⊢
                exact hl
              have hmem : e.on ∈ p :: l := (hm e.on).2 ⟨hlt, hl'⟩
              rcases List.mem_cons.1 hmem with hep | hmem
              · omega
              · have := okL_head hok hmem
                simp only [okP, Bool.and_eq_true, Bool.not_eq_true'] at this
                rw [this.1.2] at hbit
                cases hbit
          rw [hd] at this
          simp at this
    subst hnil
    have : s' = s := hrun
    subst this
    exact hQ β a w hs
  | i :: τ, 0, listed, σ, s, β, a, w, hd, _, _, _, _, _, _, _, _ => hd.elim
  | i :: τ, fuel + 1, listed, σ, s, β, a, w, hd, hsz, hf, hm, hc, hok, hx, hrun, hs => by
    obtain ⟨hi, hd⟩ := hd
    obtain ⟨o, ho, h1, h2⟩ := ready_iff.1 hi
    have hil : i < r.size := (Array.getElem?_eq_some_iff.1 ho).1
    have hiσ : i ∈ σ := (hm i).2 ⟨hil, h1⟩
    obtain ⟨l, m, rfl⟩ := List.append_of_mem hiσ
    have hnd := okL_nodup hok
    have hfront : ∀ p ∈ l, ∃ x y, r[p]? = some x ∧ r[i]? = some y ∧ (indepB P r x y || indepC P r x y) = true := by
      intro p hp
      have hpl := (hm p).1 (by simp [hp])
      have h3 := okL_at hok hp
      have hpi : p ≠ i := by
        intro e
        subst e
        simp [okP] at h3
      simp only [okP, Bool.and_eq_true, Bool.or_eq_true] at h3
      rcases h3.2 with (h4 | h4) | h4
      · exfalso
        have := clo_listed hc i o ho h2 p h4
        have h5 := hpl.2
        rw [Array.getD_eq_getD_getElem?, Array.getElem?_eq_getElem (by omega)] at this h5
        simp only [Option.getD_some] at this h5
        rw [this] at h5
        cases h5
      · exfalso
        have := hx p i h4 (by simp [hp]) (by simp)
        simp [before, hpi, Ne.symm hpi] at this
      · split at h4
        · rename_i x y hx hy
          exact ⟨x, y, hx, hy, h4⟩
        · cases h4
    obtain ⟨s1, h3, h4⟩ := run_front hfront hrun
    have hset : ∀ (j : Nat) (d : Bool), (listed.setIfInBounds i true).getD j d = if i = j then true else listed.getD j d := fun j d => set_getD (by omega)
    rw [wpOps_cons]
    refine stepN_wp h3 hs fun β' a' w' hs' => ?_
    refine ops_of_run hback hQ τ fuel (listed.setIfInBounds i true) (l ++ m) s1 β' a' w' hd (by simpa using hsz) ?_ ?_ ?_ (okL_drop hok) ?_ h4 hs'
    · simp only [List.length_append, List.length_cons] at hf ⊢
      omega
    · intro j
      have hj := hm j
      rw [hset]
      have hd1 : i ∉ l ∧ i ∉ m := by
        rw [List.nodup_append] at hnd
        exact ⟨fun h => hnd.2.2 i h i (by simp) rfl, (List.nodup_cons.1 hnd.2.1).1⟩
      simp only [List.mem_append, List.mem_cons] at hj ⊢
      by_cases hij : i = j
      · subst hij
        simp [hd1.1, hd1.2]
      · rw [if_neg hij, ← hj]
        simp [Ne.symm hij]
    · intro j oj hj hl e he hb
      rw [hset] at hl ⊢
      by_cases hij : i = j
      · subst hij
        rw [hj] at ho
        cases ho
        split
        · rfl
        · exact h2 e he hb
      · rw [if_neg hij] at hl
        split
        · rfl
        · exact hc j oj hj hl e he hb
    · intro p q hpq hp hq
      have hd1 : i ∉ l ∧ i ∉ m := by
        rw [List.nodup_append] at hnd
        exact ⟨fun h => hnd.2.2 i h i (by simp) rfl, (List.nodup_cons.1 hnd.2.1).1⟩
      have hne : ∀ x ∈ l ++ m, i ≠ x := by
        intro x hx e
        subst e
        exact (List.mem_append.1 hx).elim hd1.1 hd1.2
      have hin : ∀ x ∈ l ++ m, x ∈ l ++ i :: m := by
        intro x hx
        simp only [List.mem_append, List.mem_cons] at hx ⊢
        exact hx.imp id .inr
      have := hx p q hpq (hin p hp) (hin q hq)
      simpa [before, hne p hp, hne q hq] using this
/-- The ways to order pairs. -/
def choices : List (Nat × Nat) → List (List (Nat × Nat))
  | [] => [[]]
  | (a, b) :: U => (choices U).flatMap fun l => [(a, b) :: l, (b, a) :: l]
theorem choice_of (τ : List Nat) : ∀ {U : List (Nat × Nat)}, (∀ u ∈ U, u.1 ≠ u.2) → ∃ ex ∈ choices U, ∀ p q, ex.contains (p, q) = true → before τ p q = true
  | [], _ => ⟨[], by simp [choices], fun p q h => by simp at h⟩
  | (a, b) :: U, h => by
    obtain ⟨ex, h1, h2⟩ := choice_of τ (U := U) fun u hu => h u (by simp [hu])
    have hne : a ≠ b := h (a, b) (by simp)
    rcases before_total hne (l := τ) with h3 | h3
    · refine ⟨(a, b) :: ex, List.mem_flatMap.2 ⟨ex, h1, by simp⟩, fun p q hpq => ?_⟩
      simp only [List.contains_cons, Bool.or_eq_true, beq_iff_eq, Prod.mk.injEq] at hpq
      rcases hpq with ⟨rfl, rfl⟩ | hpq
      · exact h3
      · exact h2 p q hpq
    · refine ⟨(b, a) :: ex, List.mem_flatMap.2 ⟨ex, h1, by simp⟩, fun p q hpq => ?_⟩
      simp only [List.contains_cons, Bool.or_eq_true, beq_iff_eq, Prod.mk.injEq] at hpq
      rcases hpq with ⟨rfl, rfl⟩ | hpq
      · exact h3
      · exact h2 p q hpq
def coverB (P : Program) (r : Array Oper) (U : List (Nat × Nat)) (os : List (List Nat)) : Bool :=
  backB r && U.all (fun u => u.1 != u.2) && os.all (fun σ => σ.length == r.size && (List.range r.size).all σ.contains && σ.all fun i => decide (i < r.size)) &&
  (let T := clo r; (choices U).all fun ex => os.any fun σ => okL P r T ex σ)
theorem wp_drawn {P : Program} {E : Entry} {id : Nat} {r : Array Oper} {U : List (Nat × Nat)} {os : List (List Nat)} (hP : P.follows .mixedOrders = true) (hcov : coverB P r U os = true) {s : S} {K : S → Prop}
    (h : ∀ σ ∈ os, ∃ s', RunN P r σ s s' ∧ ∀ β a w, Sim E β s' a w → ∃ β' t, K t ∧ Sim E β' t a w) : Den P E (.region id r true) s fun e s' => e = .normal ∧ K s' := by
  intro β a w hs Q hQ
  refine wp_region_draw fun t => ?_
  simp only [Region.schedule, hP, Bool.true_or, if_true]
  simp only [coverB, Bool.and_eq_true] at hcov
  obtain ⟨⟨⟨hback, hU⟩, hperm⟩, hch⟩ := hcov
  have hd := drawn_go (r := r) r.size t (Array.replicate r.size false)
  obtain ⟨ex, hex, hbef⟩ := choice_of (Region.linearise .any r t) (U := U) fun u hu => by
    have := List.all_eq_true.1 hU u hu
    simpa using this
  obtain ⟨σ, hσ, hok⟩ := List.any_eq_true.1 (List.all_eq_true.1 hch ex hex)
  have hp := List.all_eq_true.1 hperm σ hσ
  simp only [Bool.and_eq_true, beq_iff_eq, List.all_eq_true, List.mem_range, decide_eq_true_eq] at hp
  obtain ⟨⟨hlen, hall⟩, hlt⟩ := hp
  obtain ⟨s', hrun, hK⟩ := h σ hσ
  have hs2 : Sim E β s a { w with drawn := w.drawn + 1 } := ⟨hs.dfr, hs.sl, ⟨hs.hp.len, hs.hp.ob, hs.hp.flat, hs.hp.apart⟩, hs.ent, ⟨hs.st.le, hs.st.os, hs.st.tape, hs.st.output, hs.st.size, hs.st.block, hs.st.len, hs.st.old, hs.st.fresh⟩⟩
  refine ops_of_run hback (fun β' a' w' hs' => let ⟨β2, t2, hk2, hs2⟩ := hK β' a' w' hs'; hQ .normal t2 β2 a' w' ⟨rfl, hk2⟩ hs2) (Region.linearise .any r t) r.size _ σ s β a _ hd (by simp) (by omega) (fun i => ?_) (fun i o ho hl => ?_) hok (fun p q hpq _ _ => hbef p q hpq) hrun hs2
  · constructor
    · intro hi
      refine ⟨hlt i hi, ?_⟩
      simp [Array.getD_eq_getD_getElem?, hlt i hi]
    · rintro ⟨hi, _⟩
      simpa using hall i hi
  · exfalso
    simp only [Array.getD_eq_getD_getElem?, Array.getElem?_replicate] at hl
    split at hl <;> cases hl

/-! ### A machine for one order -/
inductive StD where
  | go (l : List Nat) (s : S) (c : Prop)
  | call (f : Nat) (args : List AV) (d : Option Tmp) (l : List Nat) (s : S) (c : Prop)
  | fin (s : S) (c : Prop)
  | bad
def stepOpD (P : Program) (o : Oper) (l : List Nat) (s : S) (c : Prop) : StD :=
  match o.op with
  | .call ⟨.value x, args, _⟩ => match s.ev x, s.evs args.toList with
    | some (.cl f caps), some avs => .call f (avs ++ scAll caps) o.dst l s c
    | _, _ => .bad
  | op => match aop P s o.type op with
    | some ⟨v, h, d⟩ => .go l (s.put o.dst v h) (c ∧ d)
    | none => .bad
def stepD (P : Program) (r : Array Oper) : List Nat → S → Prop → StD
  | [], s, c => .fin s c
  | i :: l, s, c => match r[i]? with
    | some o => match guardOf r s o with
      | some b => match b with
        | true => stepOpD P o l s c
        | false => .go l (s.put o.dst (some (.tu [])) s.hp) c
      | none => .bad
    | none => .bad
def runD (P : Program) (r : Array Oper) : Nat → StD → StD
  | 0, x => x
  | n + 1, .go l s c => runD P r n (stepD P r l s c)
  | _ + 1, .call f a d l s c => .call f a d l s c
  | _ + 1, .fin s c => .fin s c
  | _ + 1, .bad => .bad
def denD (P : Program) (r : Array Oper) (G : S → Prop) : StD → Prop
  | .go l s c => c ∧ ∃ s', RunN P r l s s' ∧ G s'
  | .call f args d l s c => c ∧ ∃ res h', CallA P f args s.hp res h' ∧ Hp.ext s.hp h' ∧ ∃ s', RunN P r l (s.put d (some res) h') s' ∧ G s'
  | .fin s c => c ∧ G s
  | .bad => False
theorem stepD_den {P : Program} {r : Array Oper} {G : S → Prop} {l : List Nat} {s : S} {c : Prop} (h : denD P r G (stepD P r l s c)) : denD P r G (.go l s c) := by
  cases l with
  | nil => exact ⟨h.1, s, rfl, h.2⟩
  | cons i l =>
    simp only [stepD] at h
    split at h
    · rename_i o ho
      split at h
      · rename_i b hg
        cases b with
        | true =>
          unfold stepOpD at h
          dsimp only at h
          split at h
          · rename_i x args at_ hop
            split at h
            · rename_i f caps avs hx ha
              obtain ⟨hc, res, h', hcall, hext, s', hrun, hG⟩ := h
              refine ⟨hc, s', ⟨_, ?_, hrun⟩, hG⟩
              unfold StepN
              rw [ho]
              dsimp only
              rw [hg]
              exact .inr ⟨x, args, at_, f, caps, avs, res, h', hop, hx, ha, hcall, hext, rfl⟩
            · exact h.elim
          · split at h
            · rename_i v hp d hx
              obtain ⟨⟨hc, hd⟩, s', hrun, hG⟩ := h
              refine ⟨hc, s', ⟨_, ?_, hrun⟩, hG⟩
              unfold StepN
              rw [ho]
              dsimp only
              rw [hg]
              exact .inl ⟨_, hx, hd, rfl⟩
            · exact h.elim
        | false =>
          obtain ⟨hc, s', hrun, hG⟩ := h
          refine ⟨hc, s', ⟨_, ?_, hrun⟩, hG⟩
          unfold StepN
          rw [ho]
          dsimp only
          rw [hg]
      · exact h.elim
    · exact h.elim
theorem runD_den {P : Program} {r : Array Oper} {G : S → Prop} : ∀ (n : Nat) {x : StD}, denD P r G (runD P r n x) → denD P r G x
  | 0, x, h => h
  | n + 1, .go l s c, h => stepD_den (runD_den n h)
  | n + 1, .call .., h => h
  | n + 1, .fin .., h => h
  | n + 1, .bad, h => h
/-- No object of this heap may be turned. -/
def noOwn : Hp → Bool
  | [] => true
  | some ob :: h => !ob.own && noOwn h
  | none :: h => noOwn h
theorem noOwn_get : ∀ {h : Hp} {i : Nat} {t : AObj}, noOwn h = true → h[i]? = some (some t) → t.own = false
  | [], i, t, _, h => by simp at h
  | some ob :: l, 0, t, hn, h => by
    simp at h
    subst h
    simp [noOwn] at hn
    exact hn.1
  | none :: l, 0, t, hn, h => by simp at h
  | some ob :: l, i + 1, t, hn, h => noOwn_get (h := l) (by simp [noOwn] at hn; exact hn.2) (by simpa using h)
  | none :: l, i + 1, t, hn, h => noOwn_get (h := l) (by simpa [noOwn] using hn) (by simpa using h)
theorem den_callD {P : Program} {r : Array Oper} {G : S → Prop} {f : Nat} {avs : List AV} {d : Option Tmp} {l : List Nat} {s : S} {c : Prop} {args0 : List AV} {h0 h0' : Hp} {res0 : AV} (hc : c) (ct : CallA P f args0 h0 res0 h0') (ρ : Rho)
    (hm : avsM ρ args0 avs ∧ hpM ρ s.hp ρ h0) (hsep : sepB ρ h0 = true) (hno : noOwn h0 = true) (h : denD P r G (.go l (s.put d (some (renAV ρ s.hp.length res0)) (s.hp ++ renHp ρ s.hp.length (h0'.drop h0.length))) True)) : denD P r G (.call f avs d l s c) := by
  have hu : ∀ (ρ' : Rho) (h h' s' : Hp), (∀ (i : Nat) (t : AObj), h[i]? = some (some t) → t.own = false) → updH ρ s.hp.length ρ' h h' s' = s' := by
    intro ρ'
    induction ρ' with
    | nil => intro h h' s' _; simp [updH]
    | cons x ρ' ih =>
      intro h h' s' hn
      cases h with
      | nil => cases x <;> simp [updH]
      | cons y h =>
        have hn' : ∀ (i : Nat) (t : AObj), h[i]? = some (some t) → t.own = false := fun i t ht => hn (i + 1) t (by simpa using ht)
        cases h' with
        | nil => cases x <;> cases y <;> simp [updH]
        | cons z h' =>
          cases x with
          | none => cases y <;> simpa [updH] using ih h h' s' hn'
          | some x =>
            cases y with
            | none => simpa [updH] using ih h h' s' hn'
            | some y =>
              obtain ⟨n, e⟩ := x
              have ho := hn 0 y (by simp)
              simpa [updH, ho] using ih h h' s' hn'
  have hcall : hpCall ρ h0 h0' s.hp = s.hp ++ renHp ρ s.hp.length (h0'.drop h0.length) := by
    unfold hpCall
    rw [hu ρ h0 h0' s.hp fun i t ht => noOwn_get hno ht]
  obtain ⟨_, s', hrun, hG⟩ := h
  refine ⟨hc, _, _, callA_at ct ρ hm.1 hm.2 hsep, ?_, s', by rw [hcall]; exact hrun, hG⟩
  rw [hcall]
  exact ext_append _ _
def allDn (f : List Nat → Prop) : List (List Nat) → Prop
  | [] => True
  | [σ] => f σ
  | σ :: l => f σ ∧ allDn f l
theorem allDn_mem {f : List Nat → Prop} : ∀ {l : List (List Nat)}, allDn f l → ∀ σ ∈ l, f σ
  | [σ], h, _, hm => by simp at hm; subst hm; exact h
  | σ :: τ :: l, h, x, hm => by
    rcases List.mem_cons.1 hm with rfl | hm
    · exact h.1
    · exact allDn_mem h.2 x hm
/-- A region that draws: run it in the given orders. -/
theorem den_draw {P : Program} {E : Entry} {F : S → Prop} {id : Nat} {r : Array Oper} {k : List Item} {s : S} {c : Prop} (U : List (Nat × Nat)) (os : List (List Nat)) (hP : P.follows .mixedOrders = true) (hc : c) (hcov : coverB P r U os = true)
    (h : allDn (fun σ => denD P r (fun s' => den P E F (.go k s' True)) (.go σ s True)) os) : den P E F (.draw id r k s c) := by
  refine ⟨hc, den_mono (wp_drawn hP hcov (K := fun s' => den P E F (.go k s' True)) fun σ hσ => let ⟨s', h1, h2⟩ := (allDn_mem h σ hσ).2; ⟨s', h1, fun β a w hs => ⟨β, s', h2, hs⟩⟩) fun e s' hk => ?_⟩
  obtain ⟨rfl, hk⟩ := hk
  exact hk.2
theorem den_draw1 {P : Program} {E : Entry} {F : S → Prop} {id : Nat} {r : Array Oper} {k : List Item} {s : S} {c : Prop} (σ : List Nat) (hP : P.follows .mixedOrders = true) (hc : c) (hcov : coverB P r [] [σ] = true)
    (h : denD P r (fun s' => den P E F (.go k s' True)) (.go σ s True)) : den P E F (.draw id r k s c) :=
  den_draw [] [σ] hP hc hcov h
/-- Several orders: the others come to states in which the first one's end state is seen. -/
theorem den_drawN {P : Program} {E : Entry} {F : S → Prop} {id : Nat} {r : Array Oper} {k : List Item} {s : S} {c : Prop} (n0 : Nat) (hE : E.h.length = n0) (U : List (Nat × Nat)) (σ : List Nat) (os : List (List Nat)) (hP : P.follows .mixedOrders = true) (hc : c) (hcov : coverB P r U (σ :: os) = true) (sc : S)
    (h1 : denD P r (fun s' => s' = sc) (.go σ s True)) (h2 : ∀ τ ∈ os, denD P r (fun s' => ∃ ρ, WeakS ρ n0 sc s') (.go τ s True)) (h : den P E F (.go k sc True)) : den P E F (.draw id r k s c) := by
  refine ⟨hc, den_mono (wp_drawn hP hcov (K := fun s' => s' = sc) fun τ hτ => ?_) fun e s' hk => ?_⟩
  · rcases List.mem_cons.1 hτ with rfl | hτ
    · obtain ⟨_, s', hr, rfl⟩ := h1
      exact ⟨s', hr, fun β a w hs => ⟨β, s', rfl, hs⟩⟩
    · obtain ⟨_, s', hr, ρ, hw⟩ := h2 τ hτ
      exact ⟨s', hr, fun β a w hs => ⟨_, sc, rfl, sim_weak hE hw hs⟩⟩
  · obtain ⟨rfl, rfl⟩ := hk
    exact h.2
attribute [go_sem] runD stepD stepOpD allDn
end Go.Proofs.YtoghbjbfldlfpaaGreat
