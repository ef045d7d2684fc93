/-
  Texts merged for this claim by shake.py: what its proof needs.
-/
import Derived.WalkKit
import Derived.ProofKit
import Derived.ShutString
import Derived.OpenShut
import Derived.ChangeOld
import Derived.Below
import Derived.Carry
import Derived.Tactics
import Derived.Laws.AppendOwn
import Derived.Laws.OwnMore
import Derived.Laws.Slices
import Derived.Laws.Small
import Derived.Laws.Strings
import Derived.KernelRfl
import Derived.Laws.MakeOwn
import Derived.Laws.BytesString
import Derived.Laws.BytesArg
import Derived.Laws.Build
import Derived.Laws.Concat
import Derived.Laws.StructEq
import Derived.Lib.ConvBytes
import Derived.Test.YtndkcflepjinaaaChecked
import Derived.Orders
import Derived.Laws.BitsLemmas
import Derived.JoinedOf
import Derived.Test.YtndkcflepjinaaaRows
import Derived.Test.YtndkcflepjinaaaZFnExactCarriedByB
namespace Go.Proofs.Ytndkcflepjinaaa
section
open Go.RowKit
set_option linter.unusedVariables false
set_option linter.unusedSimpArgs false

/-- A step, in the world. -/
theorem stepN_wp {P : Program} {E : Entry} {r : Array Oper} {i : Nat} {s s1 : S} {β : Be} {a : Act} {w : World} {Q : Exit → Act → World → Prop} {K : Act → World → Prop} (h : StepN P r i s s1) (hs : Sim E β s a w) (hK : ∀ β' a' w', Sim E β' s1 a' w' → K a' w') : wpOp P r Q i K a w := by
  unfold wpOp
  unfold StepN at h
  split at h
  · rename_i hi
    subst h
    rw [hi]
    exact hK β a w hs
  · rename_i o ho
    rw [ho]
    dsimp only
    split at h
    · rename_i hg
      rw [if_pos (guard_R hs.sl hg)]
      refine .inl ?_
      unfold Oper.wp
      rcases h with ⟨x, hx, hc, rfl⟩ | ⟨y, args, at_, f, caps, avs, res, h', hop, hy, ha, ⟨⟨fn, hfn, hname, hbody⟩, hcall⟩, _, rfl⟩
      · obtain ⟨β', w', hst, hh, hx'⟩ := aop_sound hs.hp hs.sl hx hc
        rcases hx' with ⟨v, av, hrun, hv, hr⟩ | ⟨hrun, hv⟩
        · rw [hrun]
          rw [hv] at hK
          exact hK β' _ w' (sim_put hs hst hh o.dst hr)
        · rw [hrun]
          rw [hv] at hK
          exact hK β' _ w' (sim_putNone hs hst hh o.dst undef)
      · obtain ⟨cvs, hxe, hcl⟩ : AVR β (.cl f caps) (a.eval y) := ev_R hs.sl hy
        have hav := evs_R hs.sl ha
        have hvs : L2 (AVR β) (avs ++ scAll caps) (args.toList.map a.eval ++ cvs) := hav.append (scAll_R hcl)
        have hrun : (execOp a.eval o).run P w = .ok (.enter f (args.toList.map a.eval ++ cvs).toArray) w := by
          unfold execOp
          rw [hop]
          have e1 : args.map a.eval = (args.toList.map a.eval).toArray := by apply Array.ext'; simp
          have hname' : ¬ fn.name = "runtime.NumGoroutine" := by simpa using hname
          simp only [resolve, hxe, Deferred.ofValue, invoke, callFunc, Sem.run_bind, run_program, Sem.run_pure, Result.andThen_ok, hfn, e1]
          simp [hname', hbody]
        rw [hrun, Oper.upon_enter]
        refine (hcall β w _ hs.hp hvs).mono fun e w' ⟨β', v, he, hr, hh, hst⟩ => ?_
        subst he
        exact hK β' _ w' (sim_put hs hst hh o.dst hr)
    · rename_i hg
      rw [guard_R hs.sl hg]
      subst h
      exact hK β _ w (sim_put hs (StepR.refl β s.hp w hs.hp.len) hs.hp o.dst ⟨[], rfl, trivial⟩)
    · exact h.elim

def clo1 (T : List Nat) (o : Oper) : Nat := o.after.toList.foldl (fun m e => if Region.binds .any e then m ||| (1 <<< e.on) ||| T.getD e.on 0 else m) 0
def cloT : List Oper → List Nat → List Nat
  | [], T => T
  | o :: l, T => cloT l (T ++ [clo1 T o])
def clo (r : Array Oper) : List Nat := cloT r.toList []
/-- Each operation waits for earlier ones alone. -/
def backB (r : Array Oper) : Bool := (List.range r.size).all fun i => match r[i]? with
  | some o => o.after.toList.all fun e => !Region.binds .any e || decide (e.on < i)
  | none => true
theorem fold_bit (T : List Nat) (p : Nat) : ∀ (l : List Edge) (m : Nat), (l.foldl (fun m e => if Region.binds .any e then m ||| (1 <<< e.on) ||| T.getD e.on 0 else m) m).testBit p = true ↔
    m.testBit p = true ∨ ∃ e ∈ l, Region.binds .any e = true ∧ (e.on = p ∨ (T.getD e.on 0).testBit p = true)
  | [], m => by simp
  | e :: l, m => by
    rw [List.foldl_cons, fold_bit T p l]
    cases hb : Region.binds .any e
    · simp [hb]
    · simp only [if_true, Nat.testBit_or, Bool.or_eq_true, Nat.one_shiftLeft, Nat.testBit_two_pow, decide_eq_true_eq, List.mem_cons, exists_eq_or_imp, hb, true_and]
      constructor
      · rintro (((h | h) | h) | h)
        · exact .inl h
        · exact .inr (.inl (.inl h))
        · exact .inr (.inl (.inr h))
        · exact .inr (.inr h)
      · rintro (h | (h | h) | h)
        · exact .inl (.inl (.inl h))
        · exact .inl (.inl (.inr h))
        · exact .inl (.inr h)
        · exact .inr h
theorem cloT_old : ∀ (l : List Oper) (T : List Nat) (i : Nat), i < T.length → (cloT l T)[i]? = T[i]?
  | [], T, i, _ => rfl
  | o :: l, T, i, h => by
    rw [cloT, cloT_old l _ i (by simp; omega), List.getElem?_append_left h]
theorem cloT_new : ∀ (l : List Oper) (T : List Nat) (j : Nat) (o : Oper), l[j]? = some o → ∃ T', (cloT l T)[T.length + j]? = some (clo1 T' o) ∧ T'.length = T.length + j ∧ ∀ k, k < T.length + j → T'[k]? = (cloT l T)[k]?
  | [], T, j, o, h => by simp at h
  | o' :: l, T, 0, o, h => by
    simp at h
    subst h
    refine ⟨T, ?_, by simp, fun k hk => ?_⟩
    · rw [cloT, cloT_old l _ _ (by simp)]
      simp
    · rw [cloT, cloT_old l _ _ (by simp; omega), List.getElem?_append_left (by omega)]
  | o' :: l, T, j + 1, o, h => by
    obtain ⟨T', h1, h2, h3⟩ := cloT_new l (T ++ [clo1 T o']) j o (by simpa using h)
    simp only [List.length_append, List.length_cons, List.length_nil] at h1 h2 h3
    refine ⟨T', ?_, by omega, fun k hk => ?_⟩
    · rw [cloT, show T.length + (j + 1) = T.length + (0 + 1) + j from by omega]; exact h1
    · rw [cloT]; exact h3 k (by omega)
theorem clo_spec {r : Array Oper} {i : Nat} {o : Oper} (ho : r[i]? = some o) (p : Nat) : ((clo r).getD i 0).testBit p = true ↔ ∃ e ∈ o.after.toList, Region.binds .any e = true ∧ (e.on = p ∨ (e.on < i ∧ ((clo r).getD e.on 0).testBit p = true)) := by
  obtain ⟨T', h1, h2, h3⟩ := cloT_new r.toList [] i o (by simpa using ho)
  simp only [List.length_nil, Nat.zero_add] at h1 h2 h3
  have e1 : (clo r).getD i 0 = clo1 T' o := by unfold clo; rw [List.getD_eq_getElem?_getD, h1]; rfl
  rw [e1]
  unfold clo1
  rw [fold_bit]
  simp only [Nat.zero_testBit, Bool.false_eq_true, false_or]
  constructor
  · rintro ⟨e, he, hb, h⟩
    refine ⟨e, he, hb, h.imp id fun h => ?_⟩
    rcases Nat.lt_or_ge e.on i with hlt | hge
    · refine ⟨hlt, ?_⟩
      rw [List.getD_eq_getElem?_getD, h3 _ hlt] at h
      rw [List.getD_eq_getElem?_getD]
      exact h
    · rw [List.getD_eq_getElem?_getD, List.getElem?_eq_none (by omega)] at h
      simp at h
  · rintro ⟨e, he, hb, h⟩
    refine ⟨e, he, hb, h.imp id fun ⟨hlt, h⟩ => ?_⟩
    rw [List.getD_eq_getElem?_getD, h3 _ hlt]
    rw [List.getD_eq_getElem?_getD] at h
    exact h
/-- All that listed operations wait for is listed. -/
def Closed (r : Array Oper) (listed : Array Bool) : Prop := ∀ (i : Nat) (o : Oper), r[i]? = some o → listed.getD i false = true → ∀ e ∈ o.after.toList, Region.binds .any e = true → listed.getD e.on false = true
theorem clo_listed {r : Array Oper} {listed : Array Bool} (hc : Closed r listed) : ∀ (i : Nat) (o : Oper), r[i]? = some o → (∀ e ∈ o.after.toList, Region.binds .any e = true → listed.getD e.on false = true) → ∀ p, ((clo r).getD i 0).testBit p = true → listed.getD p false = true := by
  intro i
  induction i using Nat.strongRecOn with
  | _ i ih =>
    intro o ho ha p hp
    obtain ⟨e, he, hb, h⟩ := (clo_spec ho p).1 hp
    rcases h with rfl | ⟨hlt, h⟩
    · exact ha e he hb
    · have hl := ha e he hb
      cases hr : r[e.on]? with
      | none =>
        exfalso
        have hn : (clo r)[e.on]? = none := by
          rw [Array.getElem?_eq_none_iff] at hr
          have hlt2 := (Array.getElem?_eq_some_iff.1 ho).1
          omega
        rw [List.getD_eq_getElem?_getD, hn] at h
        simp at h
      | some oj => exact ih e.on hlt oj hr (hc e.on oj hr hl) p h

/-- p stands ahead of q. -/
def before : List Nat → Nat → Nat → Bool
  | [], p, q => decide (p < q)
  | i :: l, p, q => if i = p then true else if i = q then false else before l p q
theorem before_total {p q : Nat} (hne : p ≠ q) : ∀ {l : List Nat}, before l p q = true ∨ before l q p = true
  | [] => by simp only [before, decide_eq_true_eq]; omega
  | i :: l => by
    simp only [before]
    by_cases h1 : i = p
    · exact .inl (by rw [if_pos h1])
    · by_cases h2 : i = q
      · exact .inr (by rw [if_pos h2])
      · rw [if_neg h1, if_neg h2, if_neg h2, if_neg h1]
        exact before_total hne
/-- In this order, of any two the second waits for the first, or they may be swapped; and none waits for a later one. -/
def okP (P : Program) (r : Array Oper) (T : List Nat) (ex : List (Nat × Nat)) (p q : Nat) : Bool :=
  p != q && !(T.getD p 0).testBit q &&
  ((T.getD q 0).testBit p || ex.contains (p, q) || match r[p]?, r[q]? with
    | some x, some y => indepB P r x y || indepC P r x y
    | _, _ => false)
def okL (P : Program) (r : Array Oper) (T : List Nat) (ex : List (Nat × Nat)) : List Nat → Bool
  | [] => true
  | p :: l => l.all (okP P r T ex p) && okL P r T ex l
theorem okL_drop {P : Program} {r : Array Oper} {T : List Nat} {ex : List (Nat × Nat)} {i : Nat} : ∀ {l m : List Nat}, okL P r T ex (l ++ i :: m) = true → okL P r T ex (l ++ m) = true
  | [], m, h => by simp only [List.nil_append, okL, Bool.and_eq_true] at h ⊢; exact h.2
  | p :: l, m, h => by
    simp only [List.cons_append, okL, Bool.and_eq_true, List.all_eq_true] at h ⊢
    refine ⟨fun q hq => h.1 q ?_, okL_drop h.2⟩
    simp only [List.mem_append, List.mem_cons] at hq ⊢
    exact hq.imp id .inr
theorem okL_at {P : Program} {r : Array Oper} {T : List Nat} {ex : List (Nat × Nat)} {i p : Nat} : ∀ {l m : List Nat}, okL P r T ex (l ++ i :: m) = true → p ∈ l → okP P r T ex p i = true
  | [], m, _, h => by simp at h
  | q :: l, m, h, hp => by
    simp only [List.cons_append, okL, Bool.and_eq_true, List.all_eq_true] at h
    rcases List.mem_cons.1 hp with rfl | hp
    · exact h.1 i (by simp)
    · exact okL_at h.2 hp
theorem okL_head {P : Program} {r : Array Oper} {T : List Nat} {ex : List (Nat × Nat)} {i p : Nat} {l : List Nat} (h : okL P r T ex (i :: l) = true) (hp : p ∈ l) : okP P r T ex i p = true := by
  simp only [okL, Bool.and_eq_true, List.all_eq_true] at h
  exact h.1 p hp
theorem okL_nodup {P : Program} {r : Array Oper} {T : List Nat} {ex : List (Nat × Nat)} : ∀ {l : List Nat}, okL P r T ex l = true → l.Nodup
  | [], _ => List.nodup_nil
  | p :: l, h => by
    refine List.nodup_cons.2 ⟨fun hp => ?_, okL_nodup (by simp only [okL, Bool.and_eq_true] at h; exact h.2)⟩
    have := okL_head h hp
    simp [okP] at this
/-- An operation that may go first goes first. -/
theorem run_front {P : Program} {r : Array Oper} {i : Nat} : ∀ {l m : List Nat} {s s' : S}, (∀ p ∈ l, ∃ x y, r[p]? = some x ∧ r[i]? = some y ∧ (indepB P r x y || indepC P r x y) = true) → RunN P r (l ++ i :: m) s s' → RunN P r (i :: (l ++ m)) s s'
  | [], m, s, s', _, h => h
  | p :: l, m, s, s', hl, h => by
    obtain ⟨s1, h1, h2⟩ := h
    obtain ⟨s2, h3, h4⟩ := run_front (fun q hq => hl q (List.mem_cons_of_mem _ hq)) h2
    obtain ⟨x, y, hx, hy, hind⟩ := hl p (by simp)
    rcases (Bool.or_eq_true _ _).mp hind with hind | hind
    · obtain ⟨s1', h5, h6⟩ := swap hx hy hind h1 h3
      exact ⟨s1', h5, s2, h6, h4⟩
    · obtain ⟨s1', h5, h6⟩ := swapC hx hy hind h1 h3
      exact ⟨s1', h5, s2, h6, h4⟩
/-- A drawn order. -/
def Drawn (r : Array Oper) : Nat → Array Bool → List Nat → Prop
  | fuel, listed, [] => fuel = 0 ∨ Region.ready .any r listed = []
  | 0, _, _ :: _ => False
  | fuel + 1, listed, i :: τ => i ∈ Region.ready .any r listed ∧ Drawn r fuel (listed.setIfInBounds i true) τ
theorem drawn_go {r : Array Oper} : ∀ (fuel t : Nat) (listed : Array Bool), Drawn r fuel listed (Region.linearise.go .any r fuel t listed [])
  | 0, t, listed => by simp [Region.linearise.go, Drawn]
  | fuel + 1, t, listed => by
    simp only [Region.linearise.go]
    change Drawn r (fuel + 1) listed (match (Region.ready .any r listed)[t % (Region.ready .any r listed).length]? with
      | some i => Region.linearise.go .any r fuel (t / (Region.ready .any r listed).length) (listed.setIfInBounds i true) [i]
      | none => [].reverse)
    cases hi : (Region.ready .any r listed)[t % (Region.ready .any r listed).length]? with
    | none =>
      have hnil : Region.ready .any r listed = [] := by
        cases hr : Region.ready .any r listed with
        | nil => rfl
        | cons x xs =>
          rw [hr] at hi
          have hlt : t % (x :: xs).length < (x :: xs).length := Nat.mod_lt _ (by simp)
          simp at hi
          simp at hlt
          omega
      exact .inr hnil
    | some i =>
      simp only []
      rw [linearise_go_acc, List.reverse_singleton, List.singleton_append]
      exact ⟨List.mem_of_getElem? hi, drawn_go fuel _ _⟩
theorem ready_iff {r : Array Oper} {listed : Array Bool} {i : Nat} : i ∈ Region.ready .any r listed ↔ ∃ o, r[i]? = some o ∧ listed.getD i true = false ∧ ∀ e ∈ o.after.toList, Region.binds .any e = true → listed.getD e.on false = true := by
  unfold Region.ready
  simp only [List.mem_filter, List.mem_range, Bool.and_eq_true, Bool.not_eq_true']
  constructor
  · rintro ⟨hlt, h1, h2⟩
    refine ⟨r[i], Array.getElem?_eq_getElem hlt, h1, fun e he hb => ?_⟩
    rw [Array.getElem?_eq_getElem hlt] at h2
    simp only [Option.map_some, Option.getD_some, Array.all_eq_true_iff_forall_mem, Bool.or_eq_true, Bool.not_eq_true'] at h2
    rcases h2 e (by simpa using he) with h | h
    · rw [hb] at h; cases h
    · exact h
  · rintro ⟨o, ho, h1, h2⟩
    refine ⟨(Array.getElem?_eq_some_iff.1 ho).1, h1, ?_⟩
    rw [ho]
    simp only [Option.map_some, Option.getD_some, Array.all_eq_true_iff_forall_mem, Bool.or_eq_true, Bool.not_eq_true']
    intro e he
    cases hb : Region.binds .any e with
    | false => exact .inl rfl
    | true => exact .inr (h2 e (by simpa using he) hb)
theorem set_getD {l : Array Bool} {i j : Nat} {d : Bool} (hi : i < l.size) : (l.setIfInBounds i true).getD j d = if i = j then true else l.getD j d := by
  simp only [Array.getD_eq_getD_getElem?, Array.getElem?_setIfInBounds]
  by_cases h : i = j
  · subst h; simp [hi]
  · simp [h]
theorem back_lt {r : Array Oper} (h : backB r = true) {i : Nat} {o : Oper} (ho : r[i]? = some o) {e : Edge} (he : e ∈ o.after.toList) (hb : Region.binds .any e = true) : e.on < i := by
  unfold backB at h
  rw [List.all_eq_true] at h
  have := h i (List.mem_range.2 (Array.getElem?_eq_some_iff.1 ho).1)
  rw [ho] at this
  have := (List.all_eq_true.1 this) e he
  rw [hb] at this
  simpa using this
theorem drawn_nil {r : Array Oper} {fuel : Nat} {listed : Array Bool} (h : Drawn r fuel listed []) : fuel = 0 ∨ Region.ready .any r listed = [] := by
  cases fuel <;> exact h
theorem ops_of_run {P : Program} {E : Entry} {r : Array Oper} {Q : Exit → Act → World → Prop} {ex : List (Nat × Nat)} {s' : S} (hback : backB r = true) (hQ : ∀ β' a' w', Sim E β' s' a' w' → Q .normal a' w') :
    ∀ (τ : List Nat) (fuel : Nat) (listed : Array Bool) (σ : List Nat) (s : S) (β : Be) (a : Act) (w : World), Drawn r fuel listed τ → listed.size = r.size → σ.length ≤ fuel → (∀ i, i ∈ σ ↔ i < r.size ∧ listed.getD i true = false) → Closed r listed →
      okL P r (clo r) ex σ = true → (∀ p q, ex.contains (p, q) = true → p ∈ σ → q ∈ σ → before τ p q = true) → RunN P r σ s s' → Sim E β s a w → wpOps P r Q τ a w
  | [], fuel, listed, σ, s, β, a, w, hd, hsz, hf, hm, hc, hok, hx, hrun, hs => by
    have hnil : σ = [] := by
      rcases drawn_nil hd with rfl | hd
      · exact List.length_eq_zero_iff.1 (by omega)
      · cases σ with
        | nil => rfl
        | cons p l =>
          exfalso
          have hp := (hm p).1 (by simp)
          have : p ∈ Region.ready .any r listed := by
            refine ready_iff.2 ⟨r[p], Array.getElem?_eq_getElem hp.1, hp.2, fun e he hb => ?_⟩
            have hbit : ((clo r).getD p 0).testBit e.on = true := (clo_spec (Array.getElem?_eq_getElem hp.1) e.on).2 ⟨e, he, hb, .inl rfl⟩
            have hlt0 := back_lt hback (Array.getElem?_eq_getElem hp.1) he hb
            have hlt : e.on < r.size := Nat.lt_trans hlt0 hp.1
            cases hl : listed.getD e.on false with
            | true => rfl
            | false =>
              exfalso
              have hl' : listed.getD e.on true = false := by
                rw [Array.getD_eq_getD_getElem?, Array.getElem?_eq_getElem (by omega)] at hl ⊢
                exact hl
              have hmem : e.on ∈ p :: l := (hm e.on).2 ⟨hlt, hl'⟩
              rcases List.mem_cons.1 hmem with hep | hmem
              · omega
              · have := okL_head hok hmem
                simp only [okP, Bool.and_eq_true, Bool.not_eq_true'] at this
                rw [this.1.2] at hbit
                cases hbit
          rw [hd] at this
          simp at this
    subst hnil
    have : s' = s := hrun
    subst this
    exact hQ β a w hs
  | i :: τ, 0, listed, σ, s, β, a, w, hd, _, _, _, _, _, _, _, _ => hd.elim
  | i :: τ, fuel + 1, listed, σ, s, β, a, w, hd, hsz, hf, hm, hc, hok, hx, hrun, hs => by
    obtain ⟨hi, hd⟩ := hd
    obtain ⟨o, ho, h1, h2⟩ := ready_iff.1 hi
    have hil : i < r.size := (Array.getElem?_eq_some_iff.1 ho).1
    have hiσ : i ∈ σ := (hm i).2 ⟨hil, h1⟩
    obtain ⟨l, m, rfl⟩ := List.append_of_mem hiσ
    have hnd := okL_nodup hok
    have hfront : ∀ p ∈ l, ∃ x y, r[p]? = some x ∧ r[i]? = some y ∧ (indepB P r x y || indepC P r x y) = true := by
      intro p hp
      have hpl := (hm p).1 (by simp [hp])
      have h3 := okL_at hok hp
      have hpi : p ≠ i := by
        intro e
        subst e
        simp [okP] at h3
      simp only [okP, Bool.and_eq_true, Bool.or_eq_true] at h3
      rcases h3.2 with (h4 | h4) | h4
      · exfalso
        have := clo_listed hc i o ho h2 p h4
        have h5 := hpl.2
        rw [Array.getD_eq_getD_getElem?, Array.getElem?_eq_getElem (by omega)] at this h5
        simp only [Option.getD_some] at this h5
        rw [this] at h5
        cases h5
      · exfalso
        have := hx p i h4 (by simp [hp]) (by simp)
        simp [before, hpi, Ne.symm hpi] at this
      · split at h4
        · rename_i x y hx hy
          exact ⟨x, y, hx, hy, h4⟩
        · cases h4
    obtain ⟨s1, h3, h4⟩ := run_front hfront hrun
    have hset : ∀ (j : Nat) (d : Bool), (listed.setIfInBounds i true).getD j d = if i = j then true else listed.getD j d := fun j d => set_getD (by omega)
    rw [wpOps_cons]
    refine stepN_wp h3 hs fun β' a' w' hs' => ?_
    refine ops_of_run hback hQ τ fuel (listed.setIfInBounds i true) (l ++ m) s1 β' a' w' hd (by simpa using hsz) ?_ ?_ ?_ (okL_drop hok) ?_ h4 hs'
    · simp only [List.length_append, List.length_cons] at hf ⊢
      omega
    · intro j
      have hj := hm j
      rw [hset]
      have hd1 : i ∉ l ∧ i ∉ m := by
        rw [List.nodup_append] at hnd
        exact ⟨fun h => hnd.2.2 i h i (by simp) rfl, (List.nodup_cons.1 hnd.2.1).1⟩
      simp only [List.mem_append, List.mem_cons] at hj ⊢
      by_cases hij : i = j
      · subst hij
        simp [hd1.1, hd1.2]
      · rw [if_neg hij, ← hj]
        simp [Ne.symm hij]
    · intro j oj hj hl e he hb
      rw [hset] at hl ⊢
      by_cases hij : i = j
      · subst hij
        rw [hj] at ho
        cases ho
        split
        · rfl
        · exact h2 e he hb
      · rw [if_neg hij] at hl
        split
        · rfl
        · exact hc j oj hj hl e he hb
    · intro p q hpq hp hq
      have hd1 : i ∉ l ∧ i ∉ m := by
        rw [List.nodup_append] at hnd
        exact ⟨fun h => hnd.2.2 i h i (by simp) rfl, (List.nodup_cons.1 hnd.2.1).1⟩
      have hne : ∀ x ∈ l ++ m, i ≠ x := by
        intro x hx e
        subst e
        exact (List.mem_append.1 hx).elim hd1.1 hd1.2
      have hin : ∀ x ∈ l ++ m, x ∈ l ++ i :: m := by
        intro x hx
        simp only [List.mem_append, List.mem_cons] at hx ⊢
        exact hx.imp id .inr
      have := hx p q hpq (hin p hp) (hin q hq)
      simpa [before, hne p hp, hne q hq] using this
/-- The ways to order pairs. -/
def choices : List (Nat × Nat) → List (List (Nat × Nat))
  | [] => [[]]
  | (a, b) :: U => (choices U).flatMap fun l => [(a, b) :: l, (b, a) :: l]
theorem choice_of (τ : List Nat) : ∀ {U : List (Nat × Nat)}, (∀ u ∈ U, u.1 ≠ u.2) → ∃ ex ∈ choices U, ∀ p q, ex.contains (p, q) = true → before τ p q = true
  | [], _ => ⟨[], by simp [choices], fun p q h => by simp at h⟩
  | (a, b) :: U, h => by
    obtain ⟨ex, h1, h2⟩ := choice_of τ (U := U) fun u hu => h u (by simp [hu])
    have hne : a ≠ b := h (a, b) (by simp)
    rcases before_total hne (l := τ) with h3 | h3
    · refine ⟨(a, b) :: ex, List.mem_flatMap.2 ⟨ex, h1, by simp⟩, fun p q hpq => ?_⟩
      simp only [List.contains_cons, Bool.or_eq_true, beq_iff_eq, Prod.mk.injEq] at hpq
      rcases hpq with ⟨rfl, rfl⟩ | hpq
      · exact h3
      · exact h2 p q hpq
    · refine ⟨(b, a) :: ex, List.mem_flatMap.2 ⟨ex, h1, by simp⟩, fun p q hpq => ?_⟩
      simp only [List.contains_cons, Bool.or_eq_true, beq_iff_eq, Prod.mk.injEq] at hpq
      rcases hpq with ⟨rfl, rfl⟩ | hpq
      · exact h3
      · exact h2 p q hpq
def coverB (P : Program) (r : Array Oper) (U : List (Nat × Nat)) (os : List (List Nat)) : Bool :=
  backB r && U.all (fun u => u.1 != u.2) && os.all (fun σ => σ.length == r.size && (List.range r.size).all σ.contains && σ.all fun i => decide (i < r.size)) &&
  (let T := clo r; (choices U).all fun ex => os.any fun σ => okL P r T ex σ)
theorem wp_drawn {P : Program} {E : Entry} {id : Nat} {r : Array Oper} {U : List (Nat × Nat)} {os : List (List Nat)} (hP : P.follows .mixedOrders = true) (hcov : coverB P r U os = true) {s : S} {K : S → Prop}
    (h : ∀ σ ∈ os, ∃ s', RunN P r σ s s' ∧ ∀ β a w, Sim E β s' a w → ∃ β' t, K t ∧ Sim E β' t a w) : Den P E (.region id r true) s fun e s' => e = .normal ∧ K s' := by
  intro β a w hs Q hQ
  refine wp_region_draw fun t => ?_
  simp only [Region.schedule, hP, Bool.true_or, if_true]
  simp only [coverB, Bool.and_eq_true] at hcov
  obtain ⟨⟨⟨hback, hU⟩, hperm⟩, hch⟩ := hcov
  have hd := drawn_go (r := r) r.size t (Array.replicate r.size false)
  obtain ⟨ex, hex, hbef⟩ := choice_of (Region.linearise .any r t) (U := U) fun u hu => by
    have := List.all_eq_true.1 hU u hu
    simpa using this
  obtain ⟨σ, hσ, hok⟩ := List.any_eq_true.1 (List.all_eq_true.1 hch ex hex)
  have hp := List.all_eq_true.1 hperm σ hσ
  simp only [Bool.and_eq_true, beq_iff_eq, List.all_eq_true, List.mem_range, decide_eq_true_eq] at hp
  obtain ⟨⟨hlen, hall⟩, hlt⟩ := hp
  obtain ⟨s', hrun, hK⟩ := h σ hσ
  have hs2 : Sim E β s a { w with drawn := w.drawn + 1 } := ⟨hs.dfr, hs.sl, ⟨hs.hp.len, hs.hp.ob, hs.hp.flat, hs.hp.apart⟩, hs.ent, ⟨hs.st.le, hs.st.os, hs.st.tape, hs.st.output, hs.st.size, hs.st.block, hs.st.len, hs.st.old, hs.st.fresh⟩⟩
  refine ops_of_run hback (fun β' a' w' hs' => let ⟨β2, t2, hk2, hs2⟩ := hK β' a' w' hs'; hQ .normal t2 β2 a' w' ⟨rfl, hk2⟩ hs2) (Region.linearise .any r t) r.size _ σ s β a _ hd (by simp) (by omega) (fun i => ?_) (fun i o ho hl => ?_) hok (fun p q hpq _ _ => hbef p q hpq) hrun hs2
  · constructor
    · intro hi
      refine ⟨hlt i hi, ?_⟩
      simp [Array.getD_eq_getD_getElem?, hlt i hi]
    · rintro ⟨hi, _⟩
      simpa using hall i hi
  · exfalso
    simp only [Array.getD_eq_getD_getElem?, Array.getElem?_replicate] at hl
    split at hl <;> cases hl

inductive StD where
  | go (l : List Nat) (s : S) (c : Prop)
  | call (f : Nat) (args : List AV) (d : Option Tmp) (l : List Nat) (s : S) (c : Prop)
  | fin (s : S) (c : Prop)
  | bad
def stepOpD (P : Program) (o : Oper) (l : List Nat) (s : S) (c : Prop) : StD :=
  match o.op with
  | .call ⟨.value x, args, _⟩ => match s.ev x, s.evs args.toList with
    | some (.cl f caps), some avs => .call f (avs ++ scAll caps) o.dst l s c
    | _, _ => .bad
  | op => match aop P s o.type op with
    | some ⟨v, h, d⟩ => .go l (s.put o.dst v h) (c ∧ d)
    | none => .bad
def stepD (P : Program) (r : Array Oper) : List Nat → S → Prop → StD
  | [], s, c => .fin s c
  | i :: l, s, c => match r[i]? with
    | some o => match guardOf r s o with
      | some b => match b with
        | true => stepOpD P o l s c
        | false => .go l (s.put o.dst (some (.tu [])) s.hp) c
      | none => .bad
    | none => .bad
def runD (P : Program) (r : Array Oper) : Nat → StD → StD
  | 0, x => x
  | n + 1, .go l s c => runD P r n (stepD P r l s c)
  | _ + 1, .call f a d l s c => .call f a d l s c
  | _ + 1, .fin s c => .fin s c
  | _ + 1, .bad => .bad
def denD (P : Program) (r : Array Oper) (G : S → Prop) : StD → Prop
  | .go l s c => c ∧ ∃ s', RunN P r l s s' ∧ G s'
  | .call f args d l s c => c ∧ ∃ res h', CallA P f args s.hp res h' ∧ Hp.ext s.hp h' ∧ ∃ s', RunN P r l (s.put d (some res) h') s' ∧ G s'
  | .fin s c => c ∧ G s
  | .bad => False
theorem stepD_den {P : Program} {r : Array Oper} {G : S → Prop} {l : List Nat} {s : S} {c : Prop} (h : denD P r G (stepD P r l s c)) : denD P r G (.go l s c) := by
  cases l with
  | nil => exact ⟨h.1, s, rfl, h.2⟩
  | cons i l =>
    simp only [stepD] at h
    split at h
    · rename_i o ho
      split at h
      · rename_i b hg
        cases b with
        | true =>
          unfold stepOpD at h
          dsimp only at h
          split at h
          · rename_i x args at_ hop
            split at h
            · rename_i f caps avs hx ha
              obtain ⟨hc, res, h', hcall, hext, s', hrun, hG⟩ := h
              refine ⟨hc, s', ⟨_, ?_, hrun⟩, hG⟩
              unfold StepN
              rw [ho]
              dsimp only
              rw [hg]
              exact .inr ⟨x, args, at_, f, caps, avs, res, h', hop, hx, ha, hcall, hext, rfl⟩
            · exact h.elim
          · split at h
            · rename_i v hp d hx
              obtain ⟨⟨hc, hd⟩, s', hrun, hG⟩ := h
              refine ⟨hc, s', ⟨_, ?_, hrun⟩, hG⟩
              unfold StepN
              rw [ho]
              dsimp only
              rw [hg]
              exact .inl ⟨_, hx, hd, rfl⟩
            · exact h.elim
        | false =>
          obtain ⟨hc, s', hrun, hG⟩ := h
          refine ⟨hc, s', ⟨_, ?_, hrun⟩, hG⟩
          unfold StepN
          rw [ho]
          dsimp only
          rw [hg]
      · exact h.elim
    · exact h.elim
theorem runD_den {P : Program} {r : Array Oper} {G : S → Prop} : ∀ (n : Nat) {x : StD}, denD P r G (runD P r n x) → denD P r G x
  | 0, x, h => h
  | n + 1, .go l s c, h => stepD_den (runD_den n h)
  | n + 1, .call .., h => h
  | n + 1, .fin .., h => h
  | n + 1, .bad, h => h
/-- No object of this heap may be turned. -/
def noOwn : Hp → Bool
  | [] => true
  | some ob :: h => !ob.own && noOwn h
  | none :: h => noOwn h
theorem noOwn_get : ∀ {h : Hp} {i : Nat} {t : AObj}, noOwn h = true → h[i]? = some (some t) → t.own = false
  | [], i, t, _, h => by simp at h
  | some ob :: l, 0, t, hn, h => by
    simp at h
    subst h
    simp [noOwn] at hn
    exact hn.1
  | none :: l, 0, t, hn, h => by simp at h
  | some ob :: l, i + 1, t, hn, h => noOwn_get (h := l) (by simp [noOwn] at hn; exact hn.2) (by simpa using h)
  | none :: l, i + 1, t, hn, h => noOwn_get (h := l) (by simpa [noOwn] using hn) (by simpa using h)
theorem den_callD {P : Program} {r : Array Oper} {G : S → Prop} {f : Nat} {avs : List AV} {d : Option Tmp} {l : List Nat} {s : S} {c : Prop} {args0 : List AV} {h0 h0' : Hp} {res0 : AV} (hc : c) (ct : CallA P f args0 h0 res0 h0') (ρ : Rho)
    (hm : avsM ρ args0 avs ∧ hpM ρ s.hp ρ h0) (hsep : sepB ρ h0 = true) (hno : noOwn h0 = true) (h : denD P r G (.go l (s.put d (some (renAV ρ s.hp.length res0)) (s.hp ++ renHp ρ s.hp.length (h0'.drop h0.length))) True)) : denD P r G (.call f avs d l s c) := by
  have hu : ∀ (ρ' : Rho) (h h' s' : Hp), (∀ (i : Nat) (t : AObj), h[i]? = some (some t) → t.own = false) → updH ρ s.hp.length ρ' h h' s' = s' := by
    intro ρ'
    induction ρ' with
    | nil => intro h h' s' _; simp [updH]
    | cons x ρ' ih =>
      intro h h' s' hn
      cases h with
      | nil => cases x <;> simp [updH]
      | cons y h =>
        have hn' : ∀ (i : Nat) (t : AObj), h[i]? = some (some t) → t.own = false := fun i t ht => hn (i + 1) t (by simpa using ht)
        cases h' with
        | nil => cases x <;> cases y <;> simp [updH]
        | cons z h' =>
          cases x with
          | none => cases y <;> simpa [updH] using ih h h' s' hn'
          | some x =>
            cases y with
            | none => simpa [updH] using ih h h' s' hn'
            | some y =>
              obtain ⟨n, e⟩ := x
              have ho := hn 0 y (by simp)
              simpa [updH, ho] using ih h h' s' hn'
  have hcall : hpCall ρ h0 h0' s.hp = s.hp ++ renHp ρ s.hp.length (h0'.drop h0.length) := by
    unfold hpCall
    rw [hu ρ h0 h0' s.hp fun i t ht => noOwn_get hno ht]
  obtain ⟨_, s', hrun, hG⟩ := h
  refine ⟨hc, _, _, callA_at ct ρ hm.1 hm.2 hsep, ?_, s', by rw [hcall]; exact hrun, hG⟩
  rw [hcall]
  exact ext_append _ _
def allDn (f : List Nat → Prop) : List (List Nat) → Prop
  | [] => True
  | [σ] => f σ
  | σ :: l => f σ ∧ allDn f l
theorem allDn_mem {f : List Nat → Prop} : ∀ {l : List (List Nat)}, allDn f l → ∀ σ ∈ l, f σ
  | [σ], h, _, hm => by simp at hm; subst hm; exact h
  | σ :: τ :: l, h, x, hm => by
    rcases List.mem_cons.1 hm with rfl | hm
    · exact h.1
    · exact allDn_mem h.2 x hm
/-- A region that draws: run it in the given orders. -/
theorem den_draw {P : Program} {E : Entry} {F : S → Prop} {id : Nat} {r : Array Oper} {k : List Item} {s : S} {c : Prop} (U : List (Nat × Nat)) (os : List (List Nat)) (hP : P.follows .mixedOrders = true) (hc : c) (hcov : coverB P r U os = true)
    (h : allDn (fun σ => denD P r (fun s' => den P E F (.go k s' True)) (.go σ s True)) os) : den P E F (.draw id r k s c) := by
  refine ⟨hc, den_mono (wp_drawn hP hcov (K := fun s' => den P E F (.go k s' True)) fun σ hσ => let ⟨s', h1, h2⟩ := (allDn_mem h σ hσ).2; ⟨s', h1, fun β a w hs => ⟨β, s', h2, hs⟩⟩) fun e s' hk => ?_⟩
  obtain ⟨rfl, hk⟩ := hk
  exact hk.2
theorem den_draw1 {P : Program} {E : Entry} {F : S → Prop} {id : Nat} {r : Array Oper} {k : List Item} {s : S} {c : Prop} (σ : List Nat) (hP : P.follows .mixedOrders = true) (hc : c) (hcov : coverB P r [] [σ] = true)
    (h : denD P r (fun s' => den P E F (.go k s' True)) (.go σ s True)) : den P E F (.draw id r k s c) :=
  den_draw [] [σ] hP hc hcov h
attribute [go_sem] runD stepD stepOpD allDn
end
section
open Go.RowKit
set_option linter.unusedVariables false

theorem w64 {n : Int} (h : -9223372036854775808 ≤ n ∧ n ≤ 9223372036854775807) : IntKind.i64.wrap n = n := by
  rw [IntKind.wrap_i64]; omega
theorem w8 {n : Int} (h : 0 ≤ n ∧ n ≤ 255) : IntKind.u8.wrap n = n := by
  rw [IntKind.wrap_u8]; omega
theorem cast_add (a b : Nat) : ((a + b : Nat) : Int) = (a : Int) + (b : Int) := Int.natCast_add a b
theorem cast_num (n : Nat) : ((OfNat.ofNat n : Nat) : Int) = OfNat.ofNat n := rfl
theorem cast_one : ((1 : Nat) : Int) = 1 := rfl
theorem cast_zero : ((0 : Nat) : Int) = 0 := rfl
theorem take_len_map {α β : Type} (f : α → β) (l : List α) : List.take l.length (List.map f l) = List.map f l := by
  rw [List.take_of_length_le (by simp)]
theorem ez_1 : ((1 : Nat) = 0) = False := eq_false (by decide)
theorem ez_2 : ((2 : Nat) = 0) = False := eq_false (by decide)
theorem ez_3 : ((3 : Nat) = 0) = False := eq_false (by decide)
theorem ez_4 : ((4 : Nat) = 0) = False := eq_false (by decide)
theorem ez_5 : ((5 : Nat) = 0) = False := eq_false (by decide)
theorem ez_6 : ((6 : Nat) = 0) = False := eq_false (by decide)
theorem ez_7 : ((7 : Nat) = 0) = False := eq_false (by decide)
theorem ez_8 : ((8 : Nat) = 0) = False := eq_false (by decide)
theorem ez_9 : ((9 : Nat) = 0) = False := eq_false (by decide)
theorem ez_10 : ((10 : Nat) = 0) = False := eq_false (by decide)
theorem ez_11 : ((11 : Nat) = 0) = False := eq_false (by decide)
theorem ez_12 : ((12 : Nat) = 0) = False := eq_false (by decide)
theorem ez_13 : ((13 : Nat) = 0) = False := eq_false (by decide)
theorem ez_14 : ((14 : Nat) = 0) = False := eq_false (by decide)
theorem ez_15 : ((15 : Nat) = 0) = False := eq_false (by decide)
theorem ez_16 : ((16 : Nat) = 0) = False := eq_false (by decide)
theorem ez_17 : ((17 : Nat) = 0) = False := eq_false (by decide)
theorem ez_18 : ((18 : Nat) = 0) = False := eq_false (by decide)
theorem ez_19 : ((19 : Nat) = 0) = False := eq_false (by decide)
theorem ez_20 : ((20 : Nat) = 0) = False := eq_false (by decide)
theorem ez_21 : ((21 : Nat) = 0) = False := eq_false (by decide)
theorem ez_22 : ((22 : Nat) = 0) = False := eq_false (by decide)
theorem ez_23 : ((23 : Nat) = 0) = False := eq_false (by decide)
theorem ez_24 : ((24 : Nat) = 0) = False := eq_false (by decide)
theorem ez_25 : ((25 : Nat) = 0) = False := eq_false (by decide)
theorem ez_26 : ((26 : Nat) = 0) = False := eq_false (by decide)
theorem ez_27 : ((27 : Nat) = 0) = False := eq_false (by decide)
theorem ez_28 : ((28 : Nat) = 0) = False := eq_false (by decide)
theorem ez_29 : ((29 : Nat) = 0) = False := eq_false (by decide)
theorem ez_30 : ((30 : Nat) = 0) = False := eq_false (by decide)
theorem ez_31 : ((31 : Nat) = 0) = False := eq_false (by decide)
theorem ez_32 : ((32 : Nat) = 0) = False := eq_false (by decide)
theorem ez_33 : ((33 : Nat) = 0) = False := eq_false (by decide)
theorem ez_34 : ((34 : Nat) = 0) = False := eq_false (by decide)
theorem ez_35 : ((35 : Nat) = 0) = False := eq_false (by decide)
theorem ez_36 : ((36 : Nat) = 0) = False := eq_false (by decide)
theorem ez_37 : ((37 : Nat) = 0) = False := eq_false (by decide)
theorem ez_38 : ((38 : Nat) = 0) = False := eq_false (by decide)
theorem ez_39 : ((39 : Nat) = 0) = False := eq_false (by decide)
attribute [go_sem] ez_1 ez_2 ez_3 ez_4 ez_5 ez_6 ez_7 ez_8 ez_9 ez_10 ez_11 ez_12 ez_13 ez_14 ez_15 ez_16 ez_17 ez_18 ez_19 ez_20 ez_21 ez_22 ez_23 ez_24 ez_25 ez_26 ez_27 ez_28 ez_29 ez_30 ez_31 ez_32 ez_33 ez_34 ez_35 ez_36 ez_37 ez_38 ez_39 if_true if_false
attribute [go_sem] ne_eq not_false_eq_true Nat.le_refl take_len_map cast_add cast_num cast_one cast_zero
attribute [go_sem] Bool.false_eq_true false_implies imp_self and_true true_and Bool.false_and Bool.true_and Bool.and_true Bool.and_false
theorem byteSc_byteC (b : UInt8) : byteSc (byteC b) = b := by simp [byteC, byteSc]
theorem map_byteSc (l : List UInt8) : List.map byteSc (List.map byteC l) = l := by
  rw [List.map_map]
  have : byteSc ∘ byteC = id := funext fun b => byteSc_byteC b
  rw [this, List.map_id]
theorem take_1add {α : Type} (n : Nat) (a : α) (l : List α) : List.take (1 + n) (a :: l) = a :: List.take n l := by
  rw [Nat.add_comm]; rfl
theorem drop_1add {α : Type} (n : Nat) (a : α) (l : List α) : List.drop (1 + n) (a :: l) = List.drop n l := by
  rw [Nat.add_comm]; rfl
attribute [go_sem] byteSc_byteC map_byteSc take_1add drop_1add
theorem isByte_byteC (b : UInt8) : isByte (byteC b) = true := by
  rfl
theorem all_byteC (l : List UInt8) : (∀ c, c ∈ List.map byteC l → isByte c = true) = True := by
  refine eq_true fun c hc => ?_
  obtain ⟨b, _, rfl⟩ := List.mem_map.1 hc
  exact isByte_byteC b
theorem getD_at' {α : Type} {l : List α} {k : Nat} (d : α) (h : k < l.length) : l.getD k d = l[k] := by
  rw [List.getD_eq_getElem?_getD, List.getElem?_eq_getElem h]; rfl
theorem ntmod_2 (n : Nat) : (n : Int).tmod 2 = ((n % 2 : Nat) : Int) := by
  rw [Int.tmod_eq_emod_of_nonneg (by omega)]; omega
theorem ntdiv_2 (n : Nat) : (n : Int).tdiv 2 = ((n / 2 : Nat) : Int) := by
  rw [Int.tdiv_eq_ediv_of_nonneg (by omega)]; omega
attribute [go_sem] ntmod_2 ntdiv_2
theorem ntmod_3 (n : Nat) : (n : Int).tmod 3 = ((n % 3 : Nat) : Int) := by
  rw [Int.tmod_eq_emod_of_nonneg (by omega)]; omega
theorem ntdiv_3 (n : Nat) : (n : Int).tdiv 3 = ((n / 3 : Nat) : Int) := by
  rw [Int.tdiv_eq_ediv_of_nonneg (by omega)]; omega
attribute [go_sem] ntmod_3 ntdiv_3
theorem ntmod_4 (n : Nat) : (n : Int).tmod 4 = ((n % 4 : Nat) : Int) := by
  rw [Int.tmod_eq_emod_of_nonneg (by omega)]; omega
theorem ntdiv_4 (n : Nat) : (n : Int).tdiv 4 = ((n / 4 : Nat) : Int) := by
  rw [Int.tdiv_eq_ediv_of_nonneg (by omega)]; omega
attribute [go_sem] ntmod_4 ntdiv_4
theorem ntmod_5 (n : Nat) : (n : Int).tmod 5 = ((n % 5 : Nat) : Int) := by
  rw [Int.tmod_eq_emod_of_nonneg (by omega)]; omega
theorem ntdiv_5 (n : Nat) : (n : Int).tdiv 5 = ((n / 5 : Nat) : Int) := by
  rw [Int.tdiv_eq_ediv_of_nonneg (by omega)]; omega
attribute [go_sem] ntmod_5 ntdiv_5
theorem ntmod_6 (n : Nat) : (n : Int).tmod 6 = ((n % 6 : Nat) : Int) := by
  rw [Int.tmod_eq_emod_of_nonneg (by omega)]; omega
theorem ntdiv_6 (n : Nat) : (n : Int).tdiv 6 = ((n / 6 : Nat) : Int) := by
  rw [Int.tdiv_eq_ediv_of_nonneg (by omega)]; omega
attribute [go_sem] ntmod_6 ntdiv_6
theorem ntmod_8 (n : Nat) : (n : Int).tmod 8 = ((n % 8 : Nat) : Int) := by
  rw [Int.tmod_eq_emod_of_nonneg (by omega)]; omega
theorem ntdiv_8 (n : Nat) : (n : Int).tdiv 8 = ((n / 8 : Nat) : Int) := by
  rw [Int.tdiv_eq_ediv_of_nonneg (by omega)]; omega
attribute [go_sem] ntmod_8 ntdiv_8
theorem ntmod_10 (n : Nat) : (n : Int).tmod 10 = ((n % 10 : Nat) : Int) := by
  rw [Int.tmod_eq_emod_of_nonneg (by omega)]; omega
theorem ntdiv_10 (n : Nat) : (n : Int).tdiv 10 = ((n / 10 : Nat) : Int) := by
  rw [Int.tdiv_eq_ediv_of_nonneg (by omega)]; omega
attribute [go_sem] ntmod_10 ntdiv_10
theorem ntmod_16 (n : Nat) : (n : Int).tmod 16 = ((n % 16 : Nat) : Int) := by
  rw [Int.tmod_eq_emod_of_nonneg (by omega)]; omega
theorem ntdiv_16 (n : Nat) : (n : Int).tdiv 16 = ((n / 16 : Nat) : Int) := by
  rw [Int.tdiv_eq_ediv_of_nonneg (by omega)]; omega
attribute [go_sem] ntmod_16 ntdiv_16
theorem ntmod_32 (n : Nat) : (n : Int).tmod 32 = ((n % 32 : Nat) : Int) := by
  rw [Int.tmod_eq_emod_of_nonneg (by omega)]; omega
theorem ntdiv_32 (n : Nat) : (n : Int).tdiv 32 = ((n / 32 : Nat) : Int) := by
  rw [Int.tdiv_eq_ediv_of_nonneg (by omega)]; omega
attribute [go_sem] ntmod_32 ntdiv_32
theorem toNat_addz {k : Nat} {z : Int} (h : 0 ≤ z) : ((k : Int) + z).toNat = k + z.toNat := by omega
def strC (s : List UInt8) : List Sc := [.st s]
theorem strs_get {l : List (List UInt8)} {k : Nat} (h : k < l.length) : (l.map strC)[k]? = some [.st l[k]] := by simp [strC, h]
theorem getD_u8 {l : List UInt8} {k : Nat} (h : k < l.length) : l.getD k 0 = l[k] := getD_at' 0 h
attribute [go_sem] strC intC
theorem dec_t {a b : Int} (h : a < b) : decide (a < b) = true := decide_eq_true h
theorem dec_f {a b : Int} (h : ¬ a < b) : decide (a < b) = false := decide_eq_false h
theorem dle_t {a b : Int} (h : a ≤ b) : decide (a ≤ b) = true := decide_eq_true h
theorem dle_f {a b : Int} (h : ¬ a ≤ b) : decide (a ≤ b) = false := decide_eq_false h
theorem ieq_t {a b : Int} (h : a = b) : (a == b) = true := beq_iff_eq.2 h
theorem ieq_f {a b : Int} (h : ¬ a = b) : (a == b) = false := beq_eq_false_iff_ne.2 h
theorem ine_t {a b : Int} (h : ¬ a = b) : (a != b) = true := bne_iff_ne.2 h
theorem ine_f {a b : Int} (h : a = b) : (a != b) = false := bne_eq_false_iff_eq.2 h
attribute [go_sem] w64 w8 toNat_addz getD_u8 map_get dec_t dec_f dle_t dle_f ieq_t ieq_f ine_t ine_f List.not_mem_nil implies_true or_imp forall_and forall_eq isByte_byteC all_byteC List.length_append
end
section
set_option linter.unusedVariables false
def decGo (n : Nat) (acc : List UInt8) : List UInt8 :=
  if h : n < 10 then UInt8.ofNat (48 + n) :: acc else decGo (n / 10) (UInt8.ofNat (48 + n % 10) :: acc)
termination_by n
decreasing_by omega
theorem decGo_lt (n : Nat) (acc : List UInt8) : acc.length < (decGo n acc).length := by
  induction n using Nat.strongRecOn generalizing acc with
  | _ n ih =>
    rw [decGo]
    split
    · simp
    · have := ih (n / 10) (by omega) (UInt8.ofNat (48 + n % 10) :: acc)
      simp only [List.length_cons] at this
      omega
theorem decGo_le (k : Nat) : ∀ (n : Nat) (acc : List UInt8), n < 10 ^ (k + 1) → (decGo n acc).length ≤ acc.length + (k + 1) := by
  induction k with
  | zero =>
    intro n acc h
    rw [decGo, dif_pos (by omega)]
    simp
  | succ k ih =>
    intro n acc h
    rw [decGo]
    split
    · simp
    · have := ih (n / 10) (UInt8.ofNat (48 + n % 10) :: acc) (by rw [Nat.pow_succ] at h; omega)
      simp only [List.length_cons] at this
      omega
theorem decGo_20 {n : Int} (h : I64 n) : (decGo n.natAbs []).length ≤ 20 := by
  have h' : -9223372036854775808 ≤ n ∧ n ≤ 9223372036854775807 := h
  have := decGo_le 19 n.natAbs [] (by omega)
  simpa using this
def inR (n a b : Int) : Bool := decide (a ≤ n) && decide (n ≤ b)
def polOk (p : PolicyD) : Bool := if p.kind = 2 then inR p.many 1 8 else (p.kind == 1 || p.kind == 3) && p.many == 0
end
section
open Go.RowKit
set_option linter.unusedVariables false
set_option linter.unusedSimpArgs false
set_option maxRecDepth 20000

def szGo (m : Int) : List Int → Int
  | [] => m
  | n :: r => if m - n < 0 then -1 else szGo (m - n) r
theorem szGo_app {m : Int} (h : 0 ≤ m) : ∀ {a b : List Int}, szGo m (a ++ b) = if szGo m a < 0 then -1 else szGo (szGo m a) b
  | [], b => (if_neg (show ¬ szGo m [] < 0 by show ¬ m < 0; omega)).symm
  | n :: a, b => by
    simp only [List.cons_append, szGo]
    split
    · rfl
    · exact szGo_app (by omega)
theorem szGo_neg {m r : Int} (h : 0 ≤ m) {a b : List Int} (e : szGo m a = r) (h1 : r < 0) : szGo m (a ++ b) = -1 := by rw [szGo_app h, if_pos (by omega)]
theorem szGo_pos {m r : Int} (h : 0 ≤ m) {a b : List Int} (e : szGo m a = r) (h1 : ¬ r < 0) : szGo m (a ++ b) = szGo r b := by rw [szGo_app h, if_neg (by omega), e]
theorem szGo_le {m : Int} (h : 0 ≤ m) : ∀ {a : List Int} {r : Int}, (∀ n ∈ a, 0 ≤ n) → szGo m a = r → -1 ≤ r ∧ r ≤ m
  | [], r, _, e => by simp only [szGo] at e; omega
  | n :: a, r, hn, e => by
    simp only [szGo] at e
    split at e
    · omega
    · have := szGo_le (m := m - n) (by omega) (fun x hx => hn x (by simp [hx])) e
      have := hn n (by simp)
      omega
theorem szGo_mem {m : Int} (h : 0 ≤ m) : ∀ {a : List Int}, (∀ n ∈ a, 0 ≤ n) → 0 ≤ szGo m a → ∀ n ∈ a, n ≤ m
  | [], _, _, n, hm => by simp at hm
  | k :: a, hn, e, n, hm => by
    simp only [szGo] at e
    split at e
    · omega
    · have h1 := hn k (by simp)
      rcases List.mem_cons.1 hm with rfl | hm
      · omega
      · have := szGo_mem (m := m - k) (by omega) (fun x hx => hn x (by simp [hx])) e n hm
        omega
theorem szGo_step {α : Type} {m : Int} {f : α → Int} {l : List α} {k : Nat} (h : k < l.length) : szGo m ((l.drop k).map f) = if m - f l[k] < 0 then -1 else szGo (m - f l[k]) ((l.drop (k + 1)).map f) := by
  rw [List.drop_eq_getElem_cons h, List.map_cons, szGo]
theorem map_set_app {α : Type} {f : α → List Sc} {l : List α} {z c : List Sc} {k : Nat} (h : k < l.length) (hc : c = f l[k]) : ((l.take k).map f ++ List.replicate (l.length - k) z).set k c = (l.take (k + 1)).map f ++ List.replicate (l.length - (k + 1)) z := by
  have e : l.length - k = (l.length - (k + 1)) + 1 := by omega
  have hl : ((l.take k).map f).length = k := by simp; omega
  rw [e, List.replicate_succ, List.set_append_right _ _ (by omega), hl, Nat.sub_self, List.set_cons_zero, List.take_succ_eq_append_getElem h, List.map_append, hc, List.append_assoc]
  rfl
theorem map_rep_get {α : Type} {f : α → List Sc} {l : List α} {z : List Sc} {k : Nat} (h : k < l.length) : ((l.take k).map f ++ List.replicate (l.length - k) z)[k]? = some z := by
  have hl : ((l.take k).map f).length = k := by simp; omega
  rw [List.getElem?_append_right (by omega), hl, Nat.sub_self, List.getElem?_replicate, if_pos (by omega)]
theorem map_rep_len {α : Type} {f : α → List Sc} {l : List α} {z : List Sc} {k : Nat} (h : k ≤ l.length) : ((l.take k).map f ++ List.replicate (l.length - k) z).length = l.length := by
  simp; omega
theorem map_rep_done {α : Type} {f : α → List Sc} {l : List α} {z : List Sc} : (l.take l.length).map f ++ List.replicate (l.length - l.length) z = l.map f := by simp

theorem laws_toRoad (x : RoadD) : CallA Try.prog 92 [.ag x.cs] [] (.ag x.cs) [] := by
  refine callA_of Try.func92 (by kernel_rfl) rfl fun E hE => run_den 400 ?_
  simp (disch := omega) only [Try.ntmps92, Try.results92, go_sem, Nat.reduceEqDiff, Nat.reduceAdd, Nat.reduceSub, Int.reduceAdd, Int.reduceSub, Int.reduceToNat]
  refine den_fin [] (by (try simp (disch := omega) only [go_sem, Nat.reduceEqDiff, Nat.reduceAdd, Nat.reduceSub, Int.reduceAdd, Int.reduceSub, Int.reduceToNat]) <;> omega) _ (by simp only [go_sem]; rfl) (by rfl) (by rfl) ?_
  simp (disch := omega) only [go_sem, Nat.reduceEqDiff, Nat.reduceAdd, Nat.reduceSub, Int.reduceAdd, Int.reduceSub, Int.reduceToNat]
theorem laws_eqRoad (x : RoadD) : CallA Try.prog 94 [.ag x.cs, .ag x.cs] [] (.sc (.bo true)) [] := by
  refine callA_of Try.func94 (by kernel_rfl) rfl fun E hE => run_den 400 ?_
  simp (disch := omega) only [Try.ntmps94, Try.results94, go_sem, Nat.reduceEqDiff, Nat.reduceAdd, Nat.reduceSub, Int.reduceAdd, Int.reduceSub, Int.reduceToNat]
  refine den_fin [] (by (try simp (disch := omega) only [go_sem, Nat.reduceEqDiff, Nat.reduceAdd, Nat.reduceSub, Int.reduceAdd, Int.reduceSub, Int.reduceToNat]) <;> omega) _ (by simp only [go_sem]; rfl) (by rfl) (by rfl) ?_
  simp (disch := omega) only [go_sem, Nat.reduceEqDiff, Nat.reduceAdd, Nat.reduceSub, Int.reduceAdd, Int.reduceSub, Int.reduceToNat]
theorem laws_toAddr (x : AddrD) : CallA Try.prog 76 [.ag x.cs] [] (.ag x.cs) [] := by
  refine callA_of Try.func76 (by kernel_rfl) rfl fun E hE => run_den 400 ?_
  simp (disch := omega) only [Try.ntmps76, Try.results76, go_sem, Nat.reduceEqDiff, Nat.reduceAdd, Nat.reduceSub, Int.reduceAdd, Int.reduceSub, Int.reduceToNat]
  refine den_fin [] (by (try simp (disch := omega) only [go_sem, Nat.reduceEqDiff, Nat.reduceAdd, Nat.reduceSub, Int.reduceAdd, Int.reduceSub, Int.reduceToNat]) <;> omega) _ (by simp only [go_sem]; rfl) (by rfl) (by rfl) ?_
  simp (disch := omega) only [go_sem, Nat.reduceEqDiff, Nat.reduceAdd, Nat.reduceSub, Int.reduceAdd, Int.reduceSub, Int.reduceToNat]
theorem laws_eqAddr (x : AddrD) : CallA Try.prog 85 [.ag x.cs, .ag x.cs] [] (.sc (.bo true)) [] := by
  refine callA_of Try.func85 (by kernel_rfl) rfl fun E hE => run_den 400 ?_
  simp (disch := omega) only [Try.ntmps85, Try.results85, go_sem, Nat.reduceEqDiff, Nat.reduceAdd, Nat.reduceSub, Int.reduceAdd, Int.reduceSub, Int.reduceToNat]
  refine den_fin [] (by (try simp (disch := omega) only [go_sem, Nat.reduceEqDiff, Nat.reduceAdd, Nat.reduceSub, Int.reduceAdd, Int.reduceSub, Int.reduceToNat]) <;> omega) _ (by simp only [go_sem]; rfl) (by rfl) (by rfl) ?_
  simp (disch := omega) only [go_sem, Nat.reduceEqDiff, Nat.reduceAdd, Nat.reduceSub, Int.reduceAdd, Int.reduceSub, Int.reduceToNat]
theorem laws_toPolicy (x : PolicyD) : CallA Try.prog 49 [.ag x.cs] [] (.ag x.cs) [] := by
  refine callA_of Try.func49 (by kernel_rfl) rfl fun E hE => run_den 400 ?_
  simp (disch := omega) only [Try.ntmps49, Try.results49, go_sem, Nat.reduceEqDiff, Nat.reduceAdd, Nat.reduceSub, Int.reduceAdd, Int.reduceSub, Int.reduceToNat]
  refine den_fin [] (by (try simp (disch := omega) only [go_sem, Nat.reduceEqDiff, Nat.reduceAdd, Nat.reduceSub, Int.reduceAdd, Int.reduceSub, Int.reduceToNat]) <;> omega) _ (by simp only [go_sem]; rfl) (by rfl) (by rfl) ?_
  simp (disch := omega) only [go_sem, Nat.reduceEqDiff, Nat.reduceAdd, Nat.reduceSub, Int.reduceAdd, Int.reduceSub, Int.reduceToNat]
theorem laws_eqPolicy (x : PolicyD) : CallA Try.prog 59 [.ag x.cs, .ag x.cs] [] (.sc (.bo true)) [] := by
  refine callA_of Try.func59 (by kernel_rfl) rfl fun E hE => run_den 400 ?_
  simp (disch := omega) only [Try.ntmps59, Try.results59, go_sem, Nat.reduceEqDiff, Nat.reduceAdd, Nat.reduceSub, Int.reduceAdd, Int.reduceSub, Int.reduceToNat]
  refine den_fin [] (by (try simp (disch := omega) only [go_sem, Nat.reduceEqDiff, Nat.reduceAdd, Nat.reduceSub, Int.reduceAdd, Int.reduceSub, Int.reduceToNat]) <;> omega) _ (by simp only [go_sem]; rfl) (by rfl) (by rfl) ?_
  simp (disch := omega) only [go_sem, Nat.reduceEqDiff, Nat.reduceAdd, Nat.reduceSub, Int.reduceAdd, Int.reduceSub, Int.reduceToNat]
theorem laws_toBucket (x : BucketD) : CallA Try.prog 53 [.ag x.cs] [] (.ag x.cs) [] := by
  refine callA_of Try.func53 (by kernel_rfl) rfl fun E hE => run_den 400 ?_
  simp (disch := omega) only [Try.ntmps53, Try.results53, go_sem, Nat.reduceEqDiff, Nat.reduceAdd, Nat.reduceSub, Int.reduceAdd, Int.reduceSub, Int.reduceToNat]
  refine den_fin [] (by (try simp (disch := omega) only [go_sem, Nat.reduceEqDiff, Nat.reduceAdd, Nat.reduceSub, Int.reduceAdd, Int.reduceSub, Int.reduceToNat]) <;> omega) _ (by simp only [go_sem]; rfl) (by rfl) (by rfl) ?_
  simp (disch := omega) only [go_sem, Nat.reduceEqDiff, Nat.reduceAdd, Nat.reduceSub, Int.reduceAdd, Int.reduceSub, Int.reduceToNat]
theorem laws_eqBucket (x : BucketD) : CallA Try.prog 63 [.ag x.cs, .ag x.cs] [] (.sc (.bo true)) [] := by
  refine callA_of Try.func63 (by kernel_rfl) rfl fun E hE => run_den 400 ?_
  simp (disch := omega) only [Try.ntmps63, Try.results63, go_sem, Nat.reduceEqDiff, Nat.reduceAdd, Nat.reduceSub, Int.reduceAdd, Int.reduceSub, Int.reduceToNat]
  refine den_fin [] (by (try simp (disch := omega) only [go_sem, Nat.reduceEqDiff, Nat.reduceAdd, Nat.reduceSub, Int.reduceAdd, Int.reduceSub, Int.reduceToNat]) <;> omega) _ (by simp only [go_sem]; rfl) (by rfl) (by rfl) ?_
  simp (disch := omega) only [go_sem, Nat.reduceEqDiff, Nat.reduceAdd, Nat.reduceSub, Int.reduceAdd, Int.reduceSub, Int.reduceToNat]
theorem laws_toHalf (x : HalfD) : CallA Try.prog 78 [.ag x.cs] [] (.ag x.cs) [] := by
  refine callA_of Try.func78 (by kernel_rfl) rfl fun E hE => run_den 400 ?_
  simp (disch := omega) only [Try.ntmps78, Try.results78, go_sem, Nat.reduceEqDiff, Nat.reduceAdd, Nat.reduceSub, Int.reduceAdd, Int.reduceSub, Int.reduceToNat]
  refine den_call (by (try simp (disch := omega) only [go_sem, Nat.reduceEqDiff, Nat.reduceAdd, Nat.reduceSub, Int.reduceAdd, Int.reduceSub, Int.reduceToNat]) <;> omega) (laws_toRoad x.road) [] (by simp only [go_sem]; repeat' first | rfl | constructor) (by rfl) (run_den 400 ?_)
  simp (disch := omega) only [go_sem, Nat.reduceEqDiff, Nat.reduceAdd, Nat.reduceSub, Int.reduceAdd, Int.reduceSub, Int.reduceToNat]
  refine den_fin [] (by (try simp (disch := omega) only [go_sem, Nat.reduceEqDiff, Nat.reduceAdd, Nat.reduceSub, Int.reduceAdd, Int.reduceSub, Int.reduceToNat]) <;> omega) _ (by simp only [go_sem]; rfl) (by rfl) (by rfl) ?_
  simp (disch := omega) only [go_sem, Nat.reduceEqDiff, Nat.reduceAdd, Nat.reduceSub, Int.reduceAdd, Int.reduceSub, Int.reduceToNat]
theorem laws_eqHalf (x : HalfD) : CallA Try.prog 87 [.ag x.cs, .ag x.cs] [] (.sc (.bo true)) [] := by
  refine callA_of Try.func87 (by kernel_rfl) rfl fun E hE => run_den 400 ?_
  simp (disch := omega) only [Try.ntmps87, Try.results87, go_sem, Nat.reduceEqDiff, Nat.reduceAdd, Nat.reduceSub, Int.reduceAdd, Int.reduceSub, Int.reduceToNat]
  refine den_call (by (try simp (disch := omega) only [go_sem, Nat.reduceEqDiff, Nat.reduceAdd, Nat.reduceSub, Int.reduceAdd, Int.reduceSub, Int.reduceToNat]) <;> omega) (laws_eqRoad x.road) [] (by simp only [go_sem]; repeat' first | rfl | constructor) (by rfl) (run_den 400 ?_)
  simp (disch := omega) only [go_sem, Nat.reduceEqDiff, Nat.reduceAdd, Nat.reduceSub, Int.reduceAdd, Int.reduceSub, Int.reduceToNat]
  refine den_fin [] (by (try simp (disch := omega) only [go_sem, Nat.reduceEqDiff, Nat.reduceAdd, Nat.reduceSub, Int.reduceAdd, Int.reduceSub, Int.reduceToNat]) <;> omega) _ (by simp only [go_sem]; rfl) (by rfl) (by rfl) ?_
  simp (disch := omega) only [go_sem, Nat.reduceEqDiff, Nat.reduceAdd, Nat.reduceSub, Int.reduceAdd, Int.reduceSub, Int.reduceToNat]
theorem laws_toTag (x : TagD) : CallA Try.prog 80 [.ag x.cs] [] (.ag x.cs) [] := by
  refine callA_of Try.func80 (by kernel_rfl) rfl fun E hE => run_den 400 ?_
  simp (disch := omega) only [Try.ntmps80, Try.results80, go_sem, Nat.reduceEqDiff, Nat.reduceAdd, Nat.reduceSub, Int.reduceAdd, Int.reduceSub, Int.reduceToNat]
  refine den_fin [] (by (try simp (disch := omega) only [go_sem, Nat.reduceEqDiff, Nat.reduceAdd, Nat.reduceSub, Int.reduceAdd, Int.reduceSub, Int.reduceToNat]) <;> omega) _ (by simp only [go_sem]; rfl) (by rfl) (by rfl) ?_
  simp (disch := omega) only [go_sem, Nat.reduceEqDiff, Nat.reduceAdd, Nat.reduceSub, Int.reduceAdd, Int.reduceSub, Int.reduceToNat]
theorem laws_eqTag (x : TagD) : CallA Try.prog 89 [.ag x.cs, .ag x.cs] [] (.sc (.bo true)) [] := by
  refine callA_of Try.func89 (by kernel_rfl) rfl fun E hE => run_den 400 ?_
  simp (disch := omega) only [Try.ntmps89, Try.results89, go_sem, Nat.reduceEqDiff, Nat.reduceAdd, Nat.reduceSub, Int.reduceAdd, Int.reduceSub, Int.reduceToNat]
  refine den_fin [] (by (try simp (disch := omega) only [go_sem, Nat.reduceEqDiff, Nat.reduceAdd, Nat.reduceSub, Int.reduceAdd, Int.reduceSub, Int.reduceToNat]) <;> omega) _ (by simp only [go_sem]; rfl) (by rfl) (by rfl) ?_
  simp (disch := omega) only [go_sem, Nat.reduceEqDiff, Nat.reduceAdd, Nat.reduceSub, Int.reduceAdd, Int.reduceSub, Int.reduceToNat]
theorem laws_toLetter (x : LetterD) : CallA Try.prog 56 [.ag x.cs] [] (.ag x.cs) [] := by
  refine callA_of Try.func56 (by kernel_rfl) rfl fun E hE => run_den 400 ?_
  simp (disch := omega) only [Try.ntmps56, Try.results56, go_sem, Nat.reduceEqDiff, Nat.reduceAdd, Nat.reduceSub, Int.reduceAdd, Int.reduceSub, Int.reduceToNat]
  refine den_call (by (try simp (disch := omega) only [go_sem, Nat.reduceEqDiff, Nat.reduceAdd, Nat.reduceSub, Int.reduceAdd, Int.reduceSub, Int.reduceToNat]) <;> omega) (laws_toTag x.tag) [] (by simp only [go_sem]; repeat' first | rfl | constructor) (by rfl) (run_den 400 ?_)
  simp (disch := omega) only [go_sem, Nat.reduceEqDiff, Nat.reduceAdd, Nat.reduceSub, Int.reduceAdd, Int.reduceSub, Int.reduceToNat]
  refine den_fin [] (by (try simp (disch := omega) only [go_sem, Nat.reduceEqDiff, Nat.reduceAdd, Nat.reduceSub, Int.reduceAdd, Int.reduceSub, Int.reduceToNat]) <;> omega) _ (by simp only [go_sem]; rfl) (by rfl) (by rfl) ?_
  simp (disch := omega) only [go_sem, Nat.reduceEqDiff, Nat.reduceAdd, Nat.reduceSub, Int.reduceAdd, Int.reduceSub, Int.reduceToNat]
theorem laws_eqLetter (x : LetterD) : CallA Try.prog 66 [.ag x.cs, .ag x.cs] [] (.sc (.bo true)) [] := by
  refine callA_of Try.func66 (by kernel_rfl) rfl fun E hE => run_den 400 ?_
  simp (disch := omega) only [Try.ntmps66, Try.results66, go_sem, Nat.reduceEqDiff, Nat.reduceAdd, Nat.reduceSub, Int.reduceAdd, Int.reduceSub, Int.reduceToNat]
  refine den_call (by (try simp (disch := omega) only [go_sem, Nat.reduceEqDiff, Nat.reduceAdd, Nat.reduceSub, Int.reduceAdd, Int.reduceSub, Int.reduceToNat]) <;> omega) (laws_eqTag x.tag) [] (by simp only [go_sem]; repeat' first | rfl | constructor) (by rfl) (run_den 400 ?_)
  simp (disch := omega) only [go_sem, Nat.reduceEqDiff, Nat.reduceAdd, Nat.reduceSub, Int.reduceAdd, Int.reduceSub, Int.reduceToNat]
  refine den_fin [] (by (try simp (disch := omega) only [go_sem, Nat.reduceEqDiff, Nat.reduceAdd, Nat.reduceSub, Int.reduceAdd, Int.reduceSub, Int.reduceToNat]) <;> omega) _ (by simp only [go_sem]; rfl) (by rfl) (by rfl) ?_
  simp (disch := omega) only [go_sem, Nat.reduceEqDiff, Nat.reduceAdd, Nat.reduceSub, Int.reduceAdd, Int.reduceSub, Int.reduceToNat]
theorem laws_toSub (x : SubD) : CallA Try.prog 77 [.ag x.cs] [] (.ag x.cs) [] := by
  refine callA_of Try.func77 (by kernel_rfl) rfl fun E hE => run_den 400 ?_
  simp (disch := omega) only [Try.ntmps77, Try.results77, go_sem, Nat.reduceEqDiff, Nat.reduceAdd, Nat.reduceSub, Int.reduceAdd, Int.reduceSub, Int.reduceToNat]
  refine den_call (by (try simp (disch := omega) only [go_sem, Nat.reduceEqDiff, Nat.reduceAdd, Nat.reduceSub, Int.reduceAdd, Int.reduceSub, Int.reduceToNat]) <;> omega) (laws_toRoad x.road) [] (by simp only [go_sem]; repeat' first | rfl | constructor) (by rfl) (run_den 400 ?_)
  simp (disch := omega) only [go_sem, Nat.reduceEqDiff, Nat.reduceAdd, Nat.reduceSub, Int.reduceAdd, Int.reduceSub, Int.reduceToNat]
  refine den_fin [] (by (try simp (disch := omega) only [go_sem, Nat.reduceEqDiff, Nat.reduceAdd, Nat.reduceSub, Int.reduceAdd, Int.reduceSub, Int.reduceToNat]) <;> omega) _ (by simp only [go_sem]; rfl) (by rfl) (by rfl) ?_
  simp (disch := omega) only [go_sem, Nat.reduceEqDiff, Nat.reduceAdd, Nat.reduceSub, Int.reduceAdd, Int.reduceSub, Int.reduceToNat]
theorem laws_eqSub (x : SubD) : CallA Try.prog 86 [.ag x.cs, .ag x.cs] [] (.sc (.bo true)) [] := by
  refine callA_of Try.func86 (by kernel_rfl) rfl fun E hE => run_den 400 ?_
  simp (disch := omega) only [Try.ntmps86, Try.results86, go_sem, Nat.reduceEqDiff, Nat.reduceAdd, Nat.reduceSub, Int.reduceAdd, Int.reduceSub, Int.reduceToNat]
  refine den_call (by (try simp (disch := omega) only [go_sem, Nat.reduceEqDiff, Nat.reduceAdd, Nat.reduceSub, Int.reduceAdd, Int.reduceSub, Int.reduceToNat]) <;> omega) (laws_eqRoad x.road) [] (by simp only [go_sem]; repeat' first | rfl | constructor) (by rfl) (run_den 400 ?_)
  simp (disch := omega) only [go_sem, Nat.reduceEqDiff, Nat.reduceAdd, Nat.reduceSub, Int.reduceAdd, Int.reduceSub, Int.reduceToNat]
  refine den_fin [] (by (try simp (disch := omega) only [go_sem, Nat.reduceEqDiff, Nat.reduceAdd, Nat.reduceSub, Int.reduceAdd, Int.reduceSub, Int.reduceToNat]) <;> omega) _ (by simp only [go_sem]; rfl) (by rfl) (by rfl) ?_
  simp (disch := omega) only [go_sem, Nat.reduceEqDiff, Nat.reduceAdd, Nat.reduceSub, Int.reduceAdd, Int.reduceSub, Int.reduceToNat]
theorem laws_toPiece (x : PieceD) : CallA Try.prog 93 [.ag x.cs] [] (.ag x.cs) [] := by
  refine callA_of Try.func93 (by kernel_rfl) rfl fun E hE => run_den 400 ?_
  simp (disch := omega) only [Try.ntmps93, Try.results93, go_sem, Nat.reduceEqDiff, Nat.reduceAdd, Nat.reduceSub, Int.reduceAdd, Int.reduceSub, Int.reduceToNat]
  refine den_fin [] (by (try simp (disch := omega) only [go_sem, Nat.reduceEqDiff, Nat.reduceAdd, Nat.reduceSub, Int.reduceAdd, Int.reduceSub, Int.reduceToNat]) <;> omega) _ (by simp only [go_sem]; rfl) (by rfl) (by rfl) ?_
  simp (disch := omega) only [go_sem, Nat.reduceEqDiff, Nat.reduceAdd, Nat.reduceSub, Int.reduceAdd, Int.reduceSub, Int.reduceToNat]
theorem laws_eqPiece (x : PieceD) : CallA Try.prog 95 [.ag x.cs, .ag x.cs] [] (.sc (.bo true)) [] := by
  refine callA_of Try.func95 (by kernel_rfl) rfl fun E hE => run_den 400 ?_
  simp (disch := omega) only [Try.ntmps95, Try.results95, go_sem, Nat.reduceEqDiff, Nat.reduceAdd, Nat.reduceSub, Int.reduceAdd, Int.reduceSub, Int.reduceToNat]
  refine den_fin [] (by (try simp (disch := omega) only [go_sem, Nat.reduceEqDiff, Nat.reduceAdd, Nat.reduceSub, Int.reduceAdd, Int.reduceSub, Int.reduceToNat]) <;> omega) _ (by simp only [go_sem]; rfl) (by rfl) (by rfl) ?_
  simp (disch := omega) only [go_sem, Nat.reduceEqDiff, Nat.reduceAdd, Nat.reduceSub, Int.reduceAdd, Int.reduceSub, Int.reduceToNat]
theorem laws_toOut (x : OutD) : CallA Try.prog 54 [.ag x.cs] [] (.ag x.cs) [] := by
  refine callA_of Try.func54 (by kernel_rfl) rfl fun E hE => run_den 400 ?_
  simp (disch := omega) only [Try.ntmps54, Try.results54, go_sem, Nat.reduceEqDiff, Nat.reduceAdd, Nat.reduceSub, Int.reduceAdd, Int.reduceSub, Int.reduceToNat]
  refine den_fin [] (by (try simp (disch := omega) only [go_sem, Nat.reduceEqDiff, Nat.reduceAdd, Nat.reduceSub, Int.reduceAdd, Int.reduceSub, Int.reduceToNat]) <;> omega) _ (by simp only [go_sem]; rfl) (by rfl) (by rfl) ?_
  simp (disch := omega) only [go_sem, Nat.reduceEqDiff, Nat.reduceAdd, Nat.reduceSub, Int.reduceAdd, Int.reduceSub, Int.reduceToNat]
theorem laws_eqOut (x : OutD) : CallA Try.prog 64 [.ag x.cs, .ag x.cs] [] (.sc (.bo true)) [] := by
  refine callA_of Try.func64 (by kernel_rfl) rfl fun E hE => run_den 400 ?_
  simp (disch := omega) only [Try.ntmps64, Try.results64, go_sem, Nat.reduceEqDiff, Nat.reduceAdd, Nat.reduceSub, Int.reduceAdd, Int.reduceSub, Int.reduceToNat]
  refine den_fin [] (by (try simp (disch := omega) only [go_sem, Nat.reduceEqDiff, Nat.reduceAdd, Nat.reduceSub, Int.reduceAdd, Int.reduceSub, Int.reduceToNat]) <;> omega) _ (by simp only [go_sem]; rfl) (by rfl) (by rfl) ?_
  simp (disch := omega) only [go_sem, Nat.reduceEqDiff, Nat.reduceAdd, Nat.reduceSub, Int.reduceAdd, Int.reduceSub, Int.reduceToNat]
theorem laws_szPiece (x : PieceD) (m : Int) (hx : x.text.length ≤ 9223372036854775807) (h0 : 0 ≤ m) (h : m ≤ 1048576) : CallA Try.prog 91 [.ag x.cs, .sc (.int .i64 m)] [] (.sc (.int .i64 (szGo m [(x.text.length : Int)]))) [] := by
  obtain ⟨R, hR⟩ : ∃ R, R = szGo m [(x.text.length : Int)] := ⟨_, rfl⟩
  rw [← hR]
  simp only [szGo] at hR
  refine callA_of Try.func91 (by kernel_rfl) rfl fun E hE => run_den 400 ?_
  simp (disch := omega) only [Try.ntmps91, Try.results91, go_sem, Nat.reduceEqDiff, Nat.reduceAdd, Nat.reduceSub, Int.reduceAdd, Int.reduceSub, Int.reduceToNat]
  split <;> rename_i h1 <;> (try simp only [beq_true, beq_false, Bool.not_eq_true', Bool.not_eq_false'] at h1) <;> simp (disch := omega) only [go_sem, Nat.reduceEqDiff, Nat.reduceAdd, Nat.reduceSub, Int.reduceAdd, Int.reduceSub, Int.reduceToNat, h1] <;> (try simp only [decide_eq_true_eq, decide_eq_false_iff_not, beq_iff_eq, beq_eq_false_iff_ne, bne_iff_ne, bne_eq_false_iff_eq, ne_eq, Decidable.not_not, Bool.and_eq_true, Bool.and_eq_false_iff, Bool.or_eq_true, Bool.or_eq_false_iff, Int.ofNat_lt, Int.ofNat_le, Bool.not_eq_eq_eq_not, Bool.not_true, Bool.not_false] at h1) <;> try simp (disch := omega) only [go_sem, Nat.reduceEqDiff, Nat.reduceAdd, Nat.reduceSub, Int.reduceAdd, Int.reduceSub, Int.reduceToNat]
  · refine den_fin [] (by (try simp (disch := omega) only [go_sem, Nat.reduceEqDiff, Nat.reduceAdd, Nat.reduceSub, Int.reduceAdd, Int.reduceSub, Int.reduceToNat]) <;> omega) _ (by simp only [go_sem]; rfl) (by rfl) (by rfl) ?_
    simp (disch := omega) only [go_sem, Nat.reduceEqDiff, Nat.reduceAdd, Nat.reduceSub, Int.reduceAdd, Int.reduceSub, Int.reduceToNat]
    omega
  · refine den_fin [] (by (try simp (disch := omega) only [go_sem, Nat.reduceEqDiff, Nat.reduceAdd, Nat.reduceSub, Int.reduceAdd, Int.reduceSub, Int.reduceToNat]) <;> omega) _ (by simp only [go_sem]; rfl) (by rfl) (by rfl) ?_
    simp (disch := omega) only [go_sem, Nat.reduceEqDiff, Nat.reduceAdd, Nat.reduceSub, Int.reduceAdd, Int.reduceSub, Int.reduceToNat]
    omega
theorem laws_szOut (x : OutD) (m : Int) (hx : x.text.length ≤ 9223372036854775807) (h0 : 0 ≤ m) (h : m ≤ 1048576) : CallA Try.prog 44 [.ag x.cs, .sc (.int .i64 m)] [] (.sc (.int .i64 (szGo m [(x.text.length : Int)]))) [] := by
  obtain ⟨R, hR⟩ : ∃ R, R = szGo m [(x.text.length : Int)] := ⟨_, rfl⟩
  rw [← hR]
  simp only [szGo] at hR
  refine callA_of Try.func44 (by kernel_rfl) rfl fun E hE => run_den 400 ?_
  simp (disch := omega) only [Try.ntmps44, Try.results44, go_sem, Nat.reduceEqDiff, Nat.reduceAdd, Nat.reduceSub, Int.reduceAdd, Int.reduceSub, Int.reduceToNat]
  split <;> rename_i h1 <;> (try simp only [beq_true, beq_false, Bool.not_eq_true', Bool.not_eq_false'] at h1) <;> simp (disch := omega) only [go_sem, Nat.reduceEqDiff, Nat.reduceAdd, Nat.reduceSub, Int.reduceAdd, Int.reduceSub, Int.reduceToNat, h1] <;> (try simp only [decide_eq_true_eq, decide_eq_false_iff_not, beq_iff_eq, beq_eq_false_iff_ne, bne_iff_ne, bne_eq_false_iff_eq, ne_eq, Decidable.not_not, Bool.and_eq_true, Bool.and_eq_false_iff, Bool.or_eq_true, Bool.or_eq_false_iff, Int.ofNat_lt, Int.ofNat_le, Bool.not_eq_eq_eq_not, Bool.not_true, Bool.not_false] at h1) <;> try simp (disch := omega) only [go_sem, Nat.reduceEqDiff, Nat.reduceAdd, Nat.reduceSub, Int.reduceAdd, Int.reduceSub, Int.reduceToNat]
  · refine den_fin [] (by (try simp (disch := omega) only [go_sem, Nat.reduceEqDiff, Nat.reduceAdd, Nat.reduceSub, Int.reduceAdd, Int.reduceSub, Int.reduceToNat]) <;> omega) _ (by simp only [go_sem]; rfl) (by rfl) (by rfl) ?_
    simp (disch := omega) only [go_sem, Nat.reduceEqDiff, Nat.reduceAdd, Nat.reduceSub, Int.reduceAdd, Int.reduceSub, Int.reduceToNat]
    omega
  · refine den_fin [] (by (try simp (disch := omega) only [go_sem, Nat.reduceEqDiff, Nat.reduceAdd, Nat.reduceSub, Int.reduceAdd, Int.reduceSub, Int.reduceToNat]) <;> omega) _ (by simp only [go_sem]; rfl) (by rfl) (by rfl) ?_
    simp (disch := omega) only [go_sem, Nat.reduceEqDiff, Nat.reduceAdd, Nat.reduceSub, Int.reduceAdd, Int.reduceSub, Int.reduceToNat]
    omega
theorem laws_szLetter (x : LetterD) (m : Int) (hx : x.text.length ≤ 9223372036854775807) (h0 : 0 ≤ m) (h : m ≤ 1048576) : CallA Try.prog 46 [.ag x.cs, .sc (.int .i64 m)] [] (.sc (.int .i64 (szGo m [(x.text.length : Int)]))) [] := by
  obtain ⟨R, hR⟩ : ∃ R, R = szGo m [(x.text.length : Int)] := ⟨_, rfl⟩
  rw [← hR]
  simp only [szGo] at hR
  refine callA_of Try.func46 (by kernel_rfl) rfl fun E hE => run_den 400 ?_
  simp (disch := omega) only [Try.ntmps46, Try.results46, go_sem, Nat.reduceEqDiff, Nat.reduceAdd, Nat.reduceSub, Int.reduceAdd, Int.reduceSub, Int.reduceToNat]
  split <;> rename_i h1 <;> (try simp only [beq_true, beq_false, Bool.not_eq_true', Bool.not_eq_false'] at h1) <;> simp (disch := omega) only [go_sem, Nat.reduceEqDiff, Nat.reduceAdd, Nat.reduceSub, Int.reduceAdd, Int.reduceSub, Int.reduceToNat, h1] <;> (try simp only [decide_eq_true_eq, decide_eq_false_iff_not, beq_iff_eq, beq_eq_false_iff_ne, bne_iff_ne, bne_eq_false_iff_eq, ne_eq, Decidable.not_not, Bool.and_eq_true, Bool.and_eq_false_iff, Bool.or_eq_true, Bool.or_eq_false_iff, Int.ofNat_lt, Int.ofNat_le, Bool.not_eq_eq_eq_not, Bool.not_true, Bool.not_false] at h1) <;> try simp (disch := omega) only [go_sem, Nat.reduceEqDiff, Nat.reduceAdd, Nat.reduceSub, Int.reduceAdd, Int.reduceSub, Int.reduceToNat]
  · refine den_fin [] (by (try simp (disch := omega) only [go_sem, Nat.reduceEqDiff, Nat.reduceAdd, Nat.reduceSub, Int.reduceAdd, Int.reduceSub, Int.reduceToNat]) <;> omega) _ (by simp only [go_sem]; rfl) (by rfl) (by rfl) ?_
    simp (disch := omega) only [go_sem, Nat.reduceEqDiff, Nat.reduceAdd, Nat.reduceSub, Int.reduceAdd, Int.reduceSub, Int.reduceToNat]
    omega
  · refine den_fin [] (by (try simp (disch := omega) only [go_sem, Nat.reduceEqDiff, Nat.reduceAdd, Nat.reduceSub, Int.reduceAdd, Int.reduceSub, Int.reduceToNat]) <;> omega) _ (by simp only [go_sem]; rfl) (by rfl) (by rfl) ?_
    simp (disch := omega) only [go_sem, Nat.reduceEqDiff, Nat.reduceAdd, Nat.reduceSub, Int.reduceAdd, Int.reduceSub, Int.reduceToNat]
    omega
end
section
open Go.RowKit
set_option linter.unusedVariables false
set_option linter.unusedSimpArgs false
set_option maxRecDepth 20000

theorem nn_app {a b : List Int} (h : ∀ n ∈ a, 0 ≤ n) (k : ∀ n ∈ b, 0 ≤ n) : ∀ n ∈ a ++ b, 0 ≤ n := fun n hn => (List.mem_append.1 hn).elim (h n) (k n)
def szLInt (l : List Int) : List Int := [(l.length : Int)]
theorem szLInt_nn (l : List Int) : ∀ n ∈ szLInt l, 0 ≤ n := by
  intro n hn
  simp only [szLInt, List.mem_cons, List.mem_map, List.not_mem_nil, or_false] at hn
  omega
theorem laws_toIntS (l : List Int) (hl : l.length ≤ 1048576) : CallA Try.prog 31 [.sc (.sl 0 0 l.length)] [some ⟨l.map intC, 1, 3, false, true⟩] (.sc (.sl 1 0 l.length)) [some ⟨l.map intC, 1, 3, false, true⟩, some ⟨l.map intC, 1, 3, true, true⟩] := by
  refine callA_of Try.func31 (by kernel_rfl) rfl fun E hE => run_den 400 ?_
  simp (disch := omega) only [Try.ntmps31, Try.results31, go_sem, Nat.reduceEqDiff, Nat.reduceAdd, Nat.reduceSub, Int.reduceAdd, Int.reduceSub, Int.reduceToNat]
  refine den_lp 1 hE (fun s (k : Nat) => s.at [5, 6, 7, 8, 9, 10, 11, 12, 13, 14, 15, 16, 17, 18, 19, 20] [(4, .sc (.int .i64 (k : Nat)))] ([some ⟨l.map intC, 1, 3, false, true⟩, some ⟨(l.take k).map intC ++ List.replicate (l.length - k) [.int .i64 0], 1, 3, true, true⟩])) (fun (k : Nat) => k ≤ l.length) (fun (k : Nat) => l.length - k) 0 [some (0, none), some (1, none)] (by (try simp (disch := omega) only [go_sem, Nat.reduceEqDiff, Nat.reduceAdd, Nat.reduceSub, Int.reduceAdd, Int.reduceSub, Int.reduceToNat]) <;> omega) (Nat.zero_le _) (weak_mk (by rfl) (by rfl) ?_) fun k hk N hN => ?_
  · try simp (disch := omega) only [go_sem, Nat.reduceEqDiff, Nat.reduceAdd, Nat.reduceSub, Int.reduceAdd, Int.reduceSub, Int.reduceToNat]
    try simp
  · refine run_den 400 ?_
    try simp (disch := omega) only [go_sem, Nat.reduceEqDiff, Nat.reduceAdd, Nat.reduceSub, Int.reduceAdd, Int.reduceSub, Int.reduceToNat]
    split <;> rename_i h <;> (try simp only [beq_true, beq_false, Bool.not_eq_true', Bool.not_eq_false'] at h) <;> simp (disch := omega) only [go_sem, Nat.reduceEqDiff, Nat.reduceAdd, Nat.reduceSub, Int.reduceAdd, Int.reduceSub, Int.reduceToNat, h] <;> (try simp only [decide_eq_true_eq, decide_eq_false_iff_not, beq_iff_eq, beq_eq_false_iff_ne, bne_iff_ne, bne_eq_false_iff_eq, ne_eq, Decidable.not_not, Bool.and_eq_true, Bool.and_eq_false_iff, Bool.or_eq_true, Bool.or_eq_false_iff, Int.ofNat_lt, Int.ofNat_le, Bool.not_eq_eq_eq_not, Bool.not_true, Bool.not_false] at h) <;> try simp (disch := omega) only [go_sem, Nat.reduceEqDiff, Nat.reduceAdd, Nat.reduceSub, Int.reduceAdd, Int.reduceSub, Int.reduceToNat]
    · try simp (disch := omega) only [go_sem, Nat.reduceEqDiff, Nat.reduceAdd, Nat.reduceSub, Int.reduceAdd, Int.reduceSub, Int.reduceToNat, map_rep_get h, map_rep_len]
      refine ⟨by (try simp (disch := omega) only [go_sem, Nat.reduceEqDiff, Nat.reduceAdd, Nat.reduceSub, Int.reduceAdd, Int.reduceSub, Int.reduceToNat, map_rep_len]) <;> omega, hN _ (k + 1) [some (0, none), some (1, none)] (by (try dsimp only); exact h) (by (try dsimp only); omega) (weak_mk (by rfl) (by rfl) ?_)⟩
      try simp (disch := omega) only [go_sem, Nat.reduceEqDiff, Nat.reduceAdd, Nat.reduceSub, Int.reduceAdd, Int.reduceSub, Int.reduceToNat]
      first | exact map_set_app h rfl | (rw [map_set_app h rfl])
    · have hk : k = l.length := by omega
      subst hk
      refine den_fin [some (0, none), some (1, none)] (by (try simp (disch := omega) only [go_sem, Nat.reduceEqDiff, Nat.reduceAdd, Nat.reduceSub, Int.reduceAdd, Int.reduceSub, Int.reduceToNat]) <;> omega) _ (by simp only [go_sem]; rfl) (by rfl) (by rfl) ?_
      simp (disch := omega) only [go_sem, Nat.reduceEqDiff, Nat.reduceAdd, Nat.reduceSub, Int.reduceAdd, Int.reduceSub, Int.reduceToNat]
      rw [map_rep_done]
theorem laws_eqIntS (l : List Int) (hl : l.length ≤ 4611686018427387904) : CallA Try.prog 12 [.sc (.sl 0 0 l.length), .sc (.sl 1 0 l.length)] [some ⟨l.map intC, 1, 3, false, true⟩, some ⟨l.map intC, 1, 3, false, true⟩] (.sc (.bo true)) [some ⟨l.map intC, 1, 3, false, true⟩, some ⟨l.map intC, 1, 3, false, true⟩] := by
  refine callA_of Try.func12 (by kernel_rfl) rfl fun E hE => run_den 400 ?_
  simp (disch := omega) only [Try.ntmps12, Try.results12, go_sem, Nat.reduceEqDiff, Nat.reduceAdd, Nat.reduceSub, Int.reduceAdd, Int.reduceSub, Int.reduceToNat]
  refine den_lp 2 hE (fun s (k : Nat) => s.at [4, 6, 7, 8, 9, 10, 11, 12, 13, 14, 15, 16, 17, 18, 19, 20, 21, 22, 23, 24, 25] [(5, .sc (.int .i64 (k : Nat)))] (s.hp)) (fun (k : Nat) => k ≤ l.length) (fun (k : Nat) => l.length - k) 0 [some (0, none), some (1, none)] (by (try simp (disch := omega) only [go_sem, Nat.reduceEqDiff, Nat.reduceAdd, Nat.reduceSub, Int.reduceAdd, Int.reduceSub, Int.reduceToNat]) <;> omega) (Nat.zero_le _) (weak_mk (by rfl) (by rfl) ?_) fun k hk N hN => ?_
  · try simp (disch := omega) only [go_sem, Nat.reduceEqDiff, Nat.reduceAdd, Nat.reduceSub, Int.reduceAdd, Int.reduceSub, Int.reduceToNat]
  · refine run_den 400 ?_
    try simp (disch := omega) only [go_sem, Nat.reduceEqDiff, Nat.reduceAdd, Nat.reduceSub, Int.reduceAdd, Int.reduceSub, Int.reduceToNat]
    split <;> rename_i h <;> (try simp only [beq_true, beq_false, Bool.not_eq_true', Bool.not_eq_false'] at h) <;> simp (disch := omega) only [go_sem, Nat.reduceEqDiff, Nat.reduceAdd, Nat.reduceSub, Int.reduceAdd, Int.reduceSub, Int.reduceToNat, h] <;> (try simp only [decide_eq_true_eq, decide_eq_false_iff_not, beq_iff_eq, beq_eq_false_iff_ne, bne_iff_ne, bne_eq_false_iff_eq, ne_eq, Decidable.not_not, Bool.and_eq_true, Bool.and_eq_false_iff, Bool.or_eq_true, Bool.or_eq_false_iff, Int.ofNat_lt, Int.ofNat_le, Bool.not_eq_eq_eq_not, Bool.not_true, Bool.not_false] at h) <;> try simp (disch := omega) only [go_sem, Nat.reduceEqDiff, Nat.reduceAdd, Nat.reduceSub, Int.reduceAdd, Int.reduceSub, Int.reduceToNat]
    · refine den_draw1 [0, 1, 2, 3, 4, 5, 6, 7, 8] (by kernel_rfl) (trivial) (by kernel_rfl) (runD_den 400 ?_)
      simp (disch := omega) only [go_sem, Nat.reduceEqDiff, Nat.reduceAdd, Nat.reduceSub, Int.reduceAdd, Int.reduceSub, Int.reduceToNat]
      try simp (disch := omega) only [go_sem, Nat.reduceEqDiff, Nat.reduceAdd, Nat.reduceSub, Int.reduceAdd, Int.reduceSub, Int.reduceToNat, strs_get h]
      refine ⟨by (try simp (disch := omega) only [go_sem, Nat.reduceEqDiff, Nat.reduceAdd, Nat.reduceSub, Int.reduceAdd, Int.reduceSub, Int.reduceToNat]) <;> omega, run_den 400 ?_⟩
      try simp (disch := omega) only [go_sem, Nat.reduceEqDiff, Nat.reduceAdd, Nat.reduceSub, Int.reduceAdd, Int.reduceSub, Int.reduceToNat]
      refine ⟨by (try simp (disch := omega) only [go_sem, Nat.reduceEqDiff, Nat.reduceAdd, Nat.reduceSub, Int.reduceAdd, Int.reduceSub, Int.reduceToNat]) <;> omega, hN _ (k + 1) [some (0, none), some (1, none)] (by (try dsimp only); exact h) (by (try dsimp only); omega) (weak_mk (by rfl) (by rfl) ?_)⟩
      try simp (disch := omega) only [go_sem, Nat.reduceEqDiff, Nat.reduceAdd, Nat.reduceSub, Int.reduceAdd, Int.reduceSub, Int.reduceToNat]
    · refine den_fin [some (0, none), some (1, none)] (by (try simp (disch := omega) only [go_sem, Nat.reduceEqDiff, Nat.reduceAdd, Nat.reduceSub, Int.reduceAdd, Int.reduceSub, Int.reduceToNat]) <;> omega) _ (by simp only [go_sem]; rfl) (by rfl) (by rfl) ?_
      simp (disch := omega) only [go_sem, Nat.reduceEqDiff, Nat.reduceAdd, Nat.reduceSub, Int.reduceAdd, Int.reduceSub, Int.reduceToNat]
theorem laws_szIntS (l : List Int) (m : Int) (hl : l.length ≤ 9223372036854775807) (h0 : 0 ≤ m) (h : m ≤ 1048576) : CallA Try.prog 26 [.sc (.sl 0 0 l.length), .sc (.int .i64 m)] [some ⟨l.map intC, 1, 3, false, true⟩] (.sc (.int .i64 (szGo m (szLInt l)))) [some ⟨l.map intC, 1, 3, false, true⟩] := by
  obtain ⟨R, hR⟩ : ∃ R, R = szGo m (szLInt l) := ⟨_, rfl⟩
  rw [← hR]
  simp only [szGo, szLInt] at hR
  refine callA_of Try.func26 (by kernel_rfl) rfl fun E hE => run_den 400 ?_
  simp (disch := omega) only [Try.ntmps26, Try.results26, go_sem, Nat.reduceEqDiff, Nat.reduceAdd, Nat.reduceSub, Int.reduceAdd, Int.reduceSub, Int.reduceToNat]
  split <;> rename_i h1 <;> (try simp only [beq_true, beq_false, Bool.not_eq_true', Bool.not_eq_false'] at h1) <;> simp (disch := omega) only [go_sem, Nat.reduceEqDiff, Nat.reduceAdd, Nat.reduceSub, Int.reduceAdd, Int.reduceSub, Int.reduceToNat, h1] <;> (try simp only [decide_eq_true_eq, decide_eq_false_iff_not, beq_iff_eq, beq_eq_false_iff_ne, bne_iff_ne, bne_eq_false_iff_eq, ne_eq, Decidable.not_not, Bool.and_eq_true, Bool.and_eq_false_iff, Bool.or_eq_true, Bool.or_eq_false_iff, Int.ofNat_lt, Int.ofNat_le, Bool.not_eq_eq_eq_not, Bool.not_true, Bool.not_false] at h1) <;> try simp (disch := omega) only [go_sem, Nat.reduceEqDiff, Nat.reduceAdd, Nat.reduceSub, Int.reduceAdd, Int.reduceSub, Int.reduceToNat]
  · refine den_fin [some (0, none)] (by (try simp (disch := omega) only [go_sem, Nat.reduceEqDiff, Nat.reduceAdd, Nat.reduceSub, Int.reduceAdd, Int.reduceSub, Int.reduceToNat]) <;> omega) _ (by simp only [go_sem]; rfl) (by rfl) (by rfl) ?_
    simp (disch := omega) only [go_sem, Nat.reduceEqDiff, Nat.reduceAdd, Nat.reduceSub, Int.reduceAdd, Int.reduceSub, Int.reduceToNat]
    omega
  · refine den_fin [some (0, none)] (by (try simp (disch := omega) only [go_sem, Nat.reduceEqDiff, Nat.reduceAdd, Nat.reduceSub, Int.reduceAdd, Int.reduceSub, Int.reduceToNat]) <;> omega) _ (by simp only [go_sem]; rfl) (by rfl) (by rfl) ?_
    simp (disch := omega) only [go_sem, Nat.reduceEqDiff, Nat.reduceAdd, Nat.reduceSub, Int.reduceAdd, Int.reduceSub, Int.reduceToNat]
    omega
def szLAddr (l : List AddrD) : List Int := [(l.length : Int)]
theorem szLAddr_nn (l : List AddrD) : ∀ n ∈ szLAddr l, 0 ≤ n := by
  intro n hn
  simp only [szLAddr, List.mem_cons, List.mem_map, List.not_mem_nil, or_false] at hn
  omega
theorem laws_toAddrS (l : List AddrD) (hl : l.length ≤ 1048576) : CallA Try.prog 50 [.sc (.sl 0 0 l.length)] [some ⟨l.map AddrD.cs, 4, 147, false, true⟩] (.sc (.sl 1 0 l.length)) [some ⟨l.map AddrD.cs, 4, 147, false, true⟩, some ⟨l.map AddrD.cs, 4, 145, true, true⟩] := by
  refine callA_of Try.func50 (by kernel_rfl) rfl fun E hE => run_den 400 ?_
  simp (disch := omega) only [Try.ntmps50, Try.results50, go_sem, Nat.reduceEqDiff, Nat.reduceAdd, Nat.reduceSub, Int.reduceAdd, Int.reduceSub, Int.reduceToNat]
  refine den_lp 1 hE (fun s (k : Nat) => s.at [5, 6, 7, 8, 9, 10, 11, 12, 13, 14, 15, 16, 17, 18, 19, 20, 21] [(4, .sc (.int .i64 (k : Nat)))] ([some ⟨l.map AddrD.cs, 4, 147, false, true⟩, some ⟨(l.take k).map AddrD.cs ++ List.replicate (l.length - k) [.int .i64 0, .int .i64 0, .bo false, .bo false], 4, 145, true, true⟩])) (fun (k : Nat) => k ≤ l.length) (fun (k : Nat) => l.length - k) 0 [some (0, none), some (1, none)] (by (try simp (disch := omega) only [go_sem, Nat.reduceEqDiff, Nat.reduceAdd, Nat.reduceSub, Int.reduceAdd, Int.reduceSub, Int.reduceToNat]) <;> omega) (Nat.zero_le _) (weak_mk (by rfl) (by rfl) ?_) fun k hk N hN => ?_
  · try simp (disch := omega) only [go_sem, Nat.reduceEqDiff, Nat.reduceAdd, Nat.reduceSub, Int.reduceAdd, Int.reduceSub, Int.reduceToNat]
    try simp
  · refine run_den 400 ?_
    try simp (disch := omega) only [go_sem, Nat.reduceEqDiff, Nat.reduceAdd, Nat.reduceSub, Int.reduceAdd, Int.reduceSub, Int.reduceToNat]
    split <;> rename_i h <;> (try simp only [beq_true, beq_false, Bool.not_eq_true', Bool.not_eq_false'] at h) <;> simp (disch := omega) only [go_sem, Nat.reduceEqDiff, Nat.reduceAdd, Nat.reduceSub, Int.reduceAdd, Int.reduceSub, Int.reduceToNat, h] <;> (try simp only [decide_eq_true_eq, decide_eq_false_iff_not, beq_iff_eq, beq_eq_false_iff_ne, bne_iff_ne, bne_eq_false_iff_eq, ne_eq, Decidable.not_not, Bool.and_eq_true, Bool.and_eq_false_iff, Bool.or_eq_true, Bool.or_eq_false_iff, Int.ofNat_lt, Int.ofNat_le, Bool.not_eq_eq_eq_not, Bool.not_true, Bool.not_false] at h) <;> try simp (disch := omega) only [go_sem, Nat.reduceEqDiff, Nat.reduceAdd, Nat.reduceSub, Int.reduceAdd, Int.reduceSub, Int.reduceToNat]
    · try simp (disch := omega) only [go_sem, Nat.reduceEqDiff, Nat.reduceAdd, Nat.reduceSub, Int.reduceAdd, Int.reduceSub, Int.reduceToNat, map_rep_get h, map_rep_len]
      refine den_call (by (try simp (disch := omega) only [go_sem, Nat.reduceEqDiff, Nat.reduceAdd, Nat.reduceSub, Int.reduceAdd, Int.reduceSub, Int.reduceToNat]) <;> omega) (laws_toAddr l[k]) [] (by simp only [go_sem]; repeat' first | rfl | constructor) (by rfl) (run_den 400 ?_)
      simp (disch := omega) only [go_sem, Nat.reduceEqDiff, Nat.reduceAdd, Nat.reduceSub, Int.reduceAdd, Int.reduceSub, Int.reduceToNat]
      try simp (disch := omega) only [go_sem, Nat.reduceEqDiff, Nat.reduceAdd, Nat.reduceSub, Int.reduceAdd, Int.reduceSub, Int.reduceToNat, map_rep_get h, map_rep_len]
      refine ⟨by (try simp (disch := omega) only [go_sem, Nat.reduceEqDiff, Nat.reduceAdd, Nat.reduceSub, Int.reduceAdd, Int.reduceSub, Int.reduceToNat, map_rep_len]) <;> omega, hN _ (k + 1) [some (0, none), some (1, none)] (by (try dsimp only); exact h) (by (try dsimp only); omega) (weak_mk (by rfl) (by rfl) ?_)⟩
      try simp (disch := omega) only [go_sem, Nat.reduceEqDiff, Nat.reduceAdd, Nat.reduceSub, Int.reduceAdd, Int.reduceSub, Int.reduceToNat]
      first | exact map_set_app h rfl | (rw [map_set_app h rfl])
    · have hk : k = l.length := by omega
      subst hk
      refine den_fin [some (0, none), some (1, none)] (by (try simp (disch := omega) only [go_sem, Nat.reduceEqDiff, Nat.reduceAdd, Nat.reduceSub, Int.reduceAdd, Int.reduceSub, Int.reduceToNat]) <;> omega) _ (by simp only [go_sem]; rfl) (by rfl) (by rfl) ?_
      simp (disch := omega) only [go_sem, Nat.reduceEqDiff, Nat.reduceAdd, Nat.reduceSub, Int.reduceAdd, Int.reduceSub, Int.reduceToNat]
      rw [map_rep_done]
theorem laws_eqAddrS (l : List AddrD) (hl : l.length ≤ 4611686018427387904) : CallA Try.prog 60 [.sc (.sl 0 0 l.length), .sc (.sl 1 0 l.length)] [some ⟨l.map AddrD.cs, 4, 145, false, true⟩, some ⟨l.map AddrD.cs, 4, 145, false, true⟩] (.sc (.bo true)) [some ⟨l.map AddrD.cs, 4, 145, false, true⟩, some ⟨l.map AddrD.cs, 4, 145, false, true⟩] := by
  refine callA_of Try.func60 (by kernel_rfl) rfl fun E hE => run_den 400 ?_
  simp (disch := omega) only [Try.ntmps60, Try.results60, go_sem, Nat.reduceEqDiff, Nat.reduceAdd, Nat.reduceSub, Int.reduceAdd, Int.reduceSub, Int.reduceToNat]
  refine den_lp 2 hE (fun s (k : Nat) => s.at [4, 6, 7, 8, 9, 10, 11, 12, 13, 14, 15, 16, 17, 18, 19, 20, 21, 22, 23, 24, 25, 26] [(5, .sc (.int .i64 (k : Nat)))] (s.hp)) (fun (k : Nat) => k ≤ l.length) (fun (k : Nat) => l.length - k) 0 [some (0, none), some (1, none)] (by (try simp (disch := omega) only [go_sem, Nat.reduceEqDiff, Nat.reduceAdd, Nat.reduceSub, Int.reduceAdd, Int.reduceSub, Int.reduceToNat]) <;> omega) (Nat.zero_le _) (weak_mk (by rfl) (by rfl) ?_) fun k hk N hN => ?_
  · try simp (disch := omega) only [go_sem, Nat.reduceEqDiff, Nat.reduceAdd, Nat.reduceSub, Int.reduceAdd, Int.reduceSub, Int.reduceToNat]
  · refine run_den 400 ?_
    try simp (disch := omega) only [go_sem, Nat.reduceEqDiff, Nat.reduceAdd, Nat.reduceSub, Int.reduceAdd, Int.reduceSub, Int.reduceToNat]
    split <;> rename_i h <;> (try simp only [beq_true, beq_false, Bool.not_eq_true', Bool.not_eq_false'] at h) <;> simp (disch := omega) only [go_sem, Nat.reduceEqDiff, Nat.reduceAdd, Nat.reduceSub, Int.reduceAdd, Int.reduceSub, Int.reduceToNat, h] <;> (try simp only [decide_eq_true_eq, decide_eq_false_iff_not, beq_iff_eq, beq_eq_false_iff_ne, bne_iff_ne, bne_eq_false_iff_eq, ne_eq, Decidable.not_not, Bool.and_eq_true, Bool.and_eq_false_iff, Bool.or_eq_true, Bool.or_eq_false_iff, Int.ofNat_lt, Int.ofNat_le, Bool.not_eq_eq_eq_not, Bool.not_true, Bool.not_false] at h) <;> try simp (disch := omega) only [go_sem, Nat.reduceEqDiff, Nat.reduceAdd, Nat.reduceSub, Int.reduceAdd, Int.reduceSub, Int.reduceToNat]
    · refine den_draw1 [0, 1, 2, 3, 4, 5, 6, 7, 8, 9] (by kernel_rfl) (trivial) (by kernel_rfl) (runD_den 400 ?_)
      simp (disch := omega) only [go_sem, Nat.reduceEqDiff, Nat.reduceAdd, Nat.reduceSub, Int.reduceAdd, Int.reduceSub, Int.reduceToNat]
      refine den_callD (by (try simp (disch := omega) only [go_sem, Nat.reduceEqDiff, Nat.reduceAdd, Nat.reduceSub, Int.reduceAdd, Int.reduceSub, Int.reduceToNat]) <;> omega) (laws_eqAddr l[k]) [] (by simp only [go_sem]; repeat' first | rfl | constructor) (by rfl) (by rfl) (runD_den 400 ?_)
      simp (disch := omega) only [go_sem, Nat.reduceEqDiff, Nat.reduceAdd, Nat.reduceSub, Int.reduceAdd, Int.reduceSub, Int.reduceToNat]
      refine ⟨by (try simp (disch := omega) only [go_sem, Nat.reduceEqDiff, Nat.reduceAdd, Nat.reduceSub, Int.reduceAdd, Int.reduceSub, Int.reduceToNat]) <;> omega, run_den 400 ?_⟩
      try simp (disch := omega) only [go_sem, Nat.reduceEqDiff, Nat.reduceAdd, Nat.reduceSub, Int.reduceAdd, Int.reduceSub, Int.reduceToNat]
      refine ⟨by (try simp (disch := omega) only [go_sem, Nat.reduceEqDiff, Nat.reduceAdd, Nat.reduceSub, Int.reduceAdd, Int.reduceSub, Int.reduceToNat]) <;> omega, hN _ (k + 1) [some (0, none), some (1, none)] (by (try dsimp only); exact h) (by (try dsimp only); omega) (weak_mk (by rfl) (by rfl) ?_)⟩
      try simp (disch := omega) only [go_sem, Nat.reduceEqDiff, Nat.reduceAdd, Nat.reduceSub, Int.reduceAdd, Int.reduceSub, Int.reduceToNat]
    · refine den_fin [some (0, none), some (1, none)] (by (try simp (disch := omega) only [go_sem, Nat.reduceEqDiff, Nat.reduceAdd, Nat.reduceSub, Int.reduceAdd, Int.reduceSub, Int.reduceToNat]) <;> omega) _ (by simp only [go_sem]; rfl) (by rfl) (by rfl) ?_
      simp (disch := omega) only [go_sem, Nat.reduceEqDiff, Nat.reduceAdd, Nat.reduceSub, Int.reduceAdd, Int.reduceSub, Int.reduceToNat]
theorem laws_szAddrS (l : List AddrD) (m : Int) (hl : l.length ≤ 9223372036854775807) (h0 : 0 ≤ m) (h : m ≤ 1048576) : CallA Try.prog 41 [.sc (.sl 0 0 l.length), .sc (.int .i64 m)] [some ⟨l.map AddrD.cs, 4, 147, false, true⟩] (.sc (.int .i64 (szGo m (szLAddr l)))) [some ⟨l.map AddrD.cs, 4, 147, false, true⟩] := by
  obtain ⟨R, hR⟩ : ∃ R, R = szGo m (szLAddr l) := ⟨_, rfl⟩
  rw [← hR]
  simp only [szGo, szLAddr] at hR
  refine callA_of Try.func41 (by kernel_rfl) rfl fun E hE => run_den 400 ?_
  simp (disch := omega) only [Try.ntmps41, Try.results41, go_sem, Nat.reduceEqDiff, Nat.reduceAdd, Nat.reduceSub, Int.reduceAdd, Int.reduceSub, Int.reduceToNat]
  split <;> rename_i h1 <;> (try simp only [beq_true, beq_false, Bool.not_eq_true', Bool.not_eq_false'] at h1) <;> simp (disch := omega) only [go_sem, Nat.reduceEqDiff, Nat.reduceAdd, Nat.reduceSub, Int.reduceAdd, Int.reduceSub, Int.reduceToNat, h1] <;> (try simp only [decide_eq_true_eq, decide_eq_false_iff_not, beq_iff_eq, beq_eq_false_iff_ne, bne_iff_ne, bne_eq_false_iff_eq, ne_eq, Decidable.not_not, Bool.and_eq_true, Bool.and_eq_false_iff, Bool.or_eq_true, Bool.or_eq_false_iff, Int.ofNat_lt, Int.ofNat_le, Bool.not_eq_eq_eq_not, Bool.not_true, Bool.not_false] at h1) <;> try simp (disch := omega) only [go_sem, Nat.reduceEqDiff, Nat.reduceAdd, Nat.reduceSub, Int.reduceAdd, Int.reduceSub, Int.reduceToNat]
  · refine den_fin [some (0, none)] (by (try simp (disch := omega) only [go_sem, Nat.reduceEqDiff, Nat.reduceAdd, Nat.reduceSub, Int.reduceAdd, Int.reduceSub, Int.reduceToNat]) <;> omega) _ (by simp only [go_sem]; rfl) (by rfl) (by rfl) ?_
    simp (disch := omega) only [go_sem, Nat.reduceEqDiff, Nat.reduceAdd, Nat.reduceSub, Int.reduceAdd, Int.reduceSub, Int.reduceToNat]
    omega
  · refine den_fin [some (0, none)] (by (try simp (disch := omega) only [go_sem, Nat.reduceEqDiff, Nat.reduceAdd, Nat.reduceSub, Int.reduceAdd, Int.reduceSub, Int.reduceToNat]) <;> omega) _ (by simp only [go_sem]; rfl) (by rfl) (by rfl) ?_
    simp (disch := omega) only [go_sem, Nat.reduceEqDiff, Nat.reduceAdd, Nat.reduceSub, Int.reduceAdd, Int.reduceSub, Int.reduceToNat]
    omega
def szLHalf (l : List HalfD) : List Int := [(l.length : Int)]
theorem szLHalf_nn (l : List HalfD) : ∀ n ∈ szLHalf l, 0 ≤ n := by
  intro n hn
  simp only [szLHalf, List.mem_cons, List.mem_map, List.not_mem_nil, or_false] at hn
  omega
theorem laws_toHalfS (l : List HalfD) (hl : l.length ≤ 1048576) : CallA Try.prog 52 [.sc (.sl 0 0 l.length)] [some ⟨l.map HalfD.cs, 8, 156, false, true⟩] (.sc (.sl 1 0 l.length)) [some ⟨l.map HalfD.cs, 8, 156, false, true⟩, some ⟨l.map HalfD.cs, 8, 153, true, true⟩] := by
  refine callA_of Try.func52 (by kernel_rfl) rfl fun E hE => run_den 400 ?_
  simp (disch := omega) only [Try.ntmps52, Try.results52, go_sem, Nat.reduceEqDiff, Nat.reduceAdd, Nat.reduceSub, Int.reduceAdd, Int.reduceSub, Int.reduceToNat]
  refine den_lp 1 hE (fun s (k : Nat) => s.at [5, 6, 7, 8, 9, 10, 11, 12, 13, 14, 15, 16, 17, 18, 19, 20, 21] [(4, .sc (.int .i64 (k : Nat)))] ([some ⟨l.map HalfD.cs, 8, 156, false, true⟩, some ⟨(l.take k).map HalfD.cs ++ List.replicate (l.length - k) [.int .i64 0, .int .i64 0, .int .i64 0, .int .i64 0, .int .i64 0, .int .i64 0, .int .i64 0, .int .i64 0], 8, 153, true, true⟩])) (fun (k : Nat) => k ≤ l.length) (fun (k : Nat) => l.length - k) 0 [some (0, none), some (1, none)] (by (try simp (disch := omega) only [go_sem, Nat.reduceEqDiff, Nat.reduceAdd, Nat.reduceSub, Int.reduceAdd, Int.reduceSub, Int.reduceToNat]) <;> omega) (Nat.zero_le _) (weak_mk (by rfl) (by rfl) ?_) fun k hk N hN => ?_
  · try simp (disch := omega) only [go_sem, Nat.reduceEqDiff, Nat.reduceAdd, Nat.reduceSub, Int.reduceAdd, Int.reduceSub, Int.reduceToNat]
    try simp
  · refine run_den 400 ?_
    try simp (disch := omega) only [go_sem, Nat.reduceEqDiff, Nat.reduceAdd, Nat.reduceSub, Int.reduceAdd, Int.reduceSub, Int.reduceToNat]
    split <;> rename_i h <;> (try simp only [beq_true, beq_false, Bool.not_eq_true', Bool.not_eq_false'] at h) <;> simp (disch := omega) only [go_sem, Nat.reduceEqDiff, Nat.reduceAdd, Nat.reduceSub, Int.reduceAdd, Int.reduceSub, Int.reduceToNat, h] <;> (try simp only [decide_eq_true_eq, decide_eq_false_iff_not, beq_iff_eq, beq_eq_false_iff_ne, bne_iff_ne, bne_eq_false_iff_eq, ne_eq, Decidable.not_not, Bool.and_eq_true, Bool.and_eq_false_iff, Bool.or_eq_true, Bool.or_eq_false_iff, Int.ofNat_lt, Int.ofNat_le, Bool.not_eq_eq_eq_not, Bool.not_true, Bool.not_false] at h) <;> try simp (disch := omega) only [go_sem, Nat.reduceEqDiff, Nat.reduceAdd, Nat.reduceSub, Int.reduceAdd, Int.reduceSub, Int.reduceToNat]
    · try simp (disch := omega) only [go_sem, Nat.reduceEqDiff, Nat.reduceAdd, Nat.reduceSub, Int.reduceAdd, Int.reduceSub, Int.reduceToNat, map_rep_get h, map_rep_len]
      refine den_call (by (try simp (disch := omega) only [go_sem, Nat.reduceEqDiff, Nat.reduceAdd, Nat.reduceSub, Int.reduceAdd, Int.reduceSub, Int.reduceToNat]) <;> omega) (laws_toHalf l[k]) [] (by simp only [go_sem]; repeat' first | rfl | constructor) (by rfl) (run_den 400 ?_)
      simp (disch := omega) only [go_sem, Nat.reduceEqDiff, Nat.reduceAdd, Nat.reduceSub, Int.reduceAdd, Int.reduceSub, Int.reduceToNat]
      try simp (disch := omega) only [go_sem, Nat.reduceEqDiff, Nat.reduceAdd, Nat.reduceSub, Int.reduceAdd, Int.reduceSub, Int.reduceToNat, map_rep_get h, map_rep_len]
      refine ⟨by (try simp (disch := omega) only [go_sem, Nat.reduceEqDiff, Nat.reduceAdd, Nat.reduceSub, Int.reduceAdd, Int.reduceSub, Int.reduceToNat, map_rep_len]) <;> omega, hN _ (k + 1) [some (0, none), some (1, none)] (by (try dsimp only); exact h) (by (try dsimp only); omega) (weak_mk (by rfl) (by rfl) ?_)⟩
      try simp (disch := omega) only [go_sem, Nat.reduceEqDiff, Nat.reduceAdd, Nat.reduceSub, Int.reduceAdd, Int.reduceSub, Int.reduceToNat]
      first | exact map_set_app h rfl | (rw [map_set_app h rfl])
    · have hk : k = l.length := by omega
      subst hk
      refine den_fin [some (0, none), some (1, none)] (by (try simp (disch := omega) only [go_sem, Nat.reduceEqDiff, Nat.reduceAdd, Nat.reduceSub, Int.reduceAdd, Int.reduceSub, Int.reduceToNat]) <;> omega) _ (by simp only [go_sem]; rfl) (by rfl) (by rfl) ?_
      simp (disch := omega) only [go_sem, Nat.reduceEqDiff, Nat.reduceAdd, Nat.reduceSub, Int.reduceAdd, Int.reduceSub, Int.reduceToNat]
      rw [map_rep_done]
theorem laws_eqHalfS (l : List HalfD) (hl : l.length ≤ 4611686018427387904) : CallA Try.prog 62 [.sc (.sl 0 0 l.length), .sc (.sl 1 0 l.length)] [some ⟨l.map HalfD.cs, 8, 153, false, true⟩, some ⟨l.map HalfD.cs, 8, 153, false, true⟩] (.sc (.bo true)) [some ⟨l.map HalfD.cs, 8, 153, false, true⟩, some ⟨l.map HalfD.cs, 8, 153, false, true⟩] := by
  refine callA_of Try.func62 (by kernel_rfl) rfl fun E hE => run_den 400 ?_
  simp (disch := omega) only [Try.ntmps62, Try.results62, go_sem, Nat.reduceEqDiff, Nat.reduceAdd, Nat.reduceSub, Int.reduceAdd, Int.reduceSub, Int.reduceToNat]
  refine den_lp 2 hE (fun s (k : Nat) => s.at [4, 6, 7, 8, 9, 10, 11, 12, 13, 14, 15, 16, 17, 18, 19, 20, 21, 22, 23, 24, 25, 26] [(5, .sc (.int .i64 (k : Nat)))] (s.hp)) (fun (k : Nat) => k ≤ l.length) (fun (k : Nat) => l.length - k) 0 [some (0, none), some (1, none)] (by (try simp (disch := omega) only [go_sem, Nat.reduceEqDiff, Nat.reduceAdd, Nat.reduceSub, Int.reduceAdd, Int.reduceSub, Int.reduceToNat]) <;> omega) (Nat.zero_le _) (weak_mk (by rfl) (by rfl) ?_) fun k hk N hN => ?_
  · try simp (disch := omega) only [go_sem, Nat.reduceEqDiff, Nat.reduceAdd, Nat.reduceSub, Int.reduceAdd, Int.reduceSub, Int.reduceToNat]
  · refine run_den 400 ?_
    try simp (disch := omega) only [go_sem, Nat.reduceEqDiff, Nat.reduceAdd, Nat.reduceSub, Int.reduceAdd, Int.reduceSub, Int.reduceToNat]
    split <;> rename_i h <;> (try simp only [beq_true, beq_false, Bool.not_eq_true', Bool.not_eq_false'] at h) <;> simp (disch := omega) only [go_sem, Nat.reduceEqDiff, Nat.reduceAdd, Nat.reduceSub, Int.reduceAdd, Int.reduceSub, Int.reduceToNat, h] <;> (try simp only [decide_eq_true_eq, decide_eq_false_iff_not, beq_iff_eq, beq_eq_false_iff_ne, bne_iff_ne, bne_eq_false_iff_eq, ne_eq, Decidable.not_not, Bool.and_eq_true, Bool.and_eq_false_iff, Bool.or_eq_true, Bool.or_eq_false_iff, Int.ofNat_lt, Int.ofNat_le, Bool.not_eq_eq_eq_not, Bool.not_true, Bool.not_false] at h) <;> try simp (disch := omega) only [go_sem, Nat.reduceEqDiff, Nat.reduceAdd, Nat.reduceSub, Int.reduceAdd, Int.reduceSub, Int.reduceToNat]
    · refine den_draw1 [0, 1, 2, 3, 4, 5, 6, 7, 8, 9] (by kernel_rfl) (trivial) (by kernel_rfl) (runD_den 400 ?_)
      simp (disch := omega) only [go_sem, Nat.reduceEqDiff, Nat.reduceAdd, Nat.reduceSub, Int.reduceAdd, Int.reduceSub, Int.reduceToNat]
      refine den_callD (by (try simp (disch := omega) only [go_sem, Nat.reduceEqDiff, Nat.reduceAdd, Nat.reduceSub, Int.reduceAdd, Int.reduceSub, Int.reduceToNat]) <;> omega) (laws_eqHalf l[k]) [] (by simp only [go_sem]; repeat' first | rfl | constructor) (by rfl) (by rfl) (runD_den 400 ?_)
      simp (disch := omega) only [go_sem, Nat.reduceEqDiff, Nat.reduceAdd, Nat.reduceSub, Int.reduceAdd, Int.reduceSub, Int.reduceToNat]
      refine ⟨by (try simp (disch := omega) only [go_sem, Nat.reduceEqDiff, Nat.reduceAdd, Nat.reduceSub, Int.reduceAdd, Int.reduceSub, Int.reduceToNat]) <;> omega, run_den 400 ?_⟩
      try simp (disch := omega) only [go_sem, Nat.reduceEqDiff, Nat.reduceAdd, Nat.reduceSub, Int.reduceAdd, Int.reduceSub, Int.reduceToNat]
      refine ⟨by (try simp (disch := omega) only [go_sem, Nat.reduceEqDiff, Nat.reduceAdd, Nat.reduceSub, Int.reduceAdd, Int.reduceSub, Int.reduceToNat]) <;> omega, hN _ (k + 1) [some (0, none), some (1, none)] (by (try dsimp only); exact h) (by (try dsimp only); omega) (weak_mk (by rfl) (by rfl) ?_)⟩
      try simp (disch := omega) only [go_sem, Nat.reduceEqDiff, Nat.reduceAdd, Nat.reduceSub, Int.reduceAdd, Int.reduceSub, Int.reduceToNat]
    · refine den_fin [some (0, none), some (1, none)] (by (try simp (disch := omega) only [go_sem, Nat.reduceEqDiff, Nat.reduceAdd, Nat.reduceSub, Int.reduceAdd, Int.reduceSub, Int.reduceToNat]) <;> omega) _ (by simp only [go_sem]; rfl) (by rfl) (by rfl) ?_
      simp (disch := omega) only [go_sem, Nat.reduceEqDiff, Nat.reduceAdd, Nat.reduceSub, Int.reduceAdd, Int.reduceSub, Int.reduceToNat]
theorem laws_szHalfS (l : List HalfD) (m : Int) (hl : l.length ≤ 9223372036854775807) (h0 : 0 ≤ m) (h : m ≤ 1048576) : CallA Try.prog 43 [.sc (.sl 0 0 l.length), .sc (.int .i64 m)] [some ⟨l.map HalfD.cs, 8, 156, false, true⟩] (.sc (.int .i64 (szGo m (szLHalf l)))) [some ⟨l.map HalfD.cs, 8, 156, false, true⟩] := by
  obtain ⟨R, hR⟩ : ∃ R, R = szGo m (szLHalf l) := ⟨_, rfl⟩
  rw [← hR]
  simp only [szGo, szLHalf] at hR
  refine callA_of Try.func43 (by kernel_rfl) rfl fun E hE => run_den 400 ?_
  simp (disch := omega) only [Try.ntmps43, Try.results43, go_sem, Nat.reduceEqDiff, Nat.reduceAdd, Nat.reduceSub, Int.reduceAdd, Int.reduceSub, Int.reduceToNat]
  split <;> rename_i h1 <;> (try simp only [beq_true, beq_false, Bool.not_eq_true', Bool.not_eq_false'] at h1) <;> simp (disch := omega) only [go_sem, Nat.reduceEqDiff, Nat.reduceAdd, Nat.reduceSub, Int.reduceAdd, Int.reduceSub, Int.reduceToNat, h1] <;> (try simp only [decide_eq_true_eq, decide_eq_false_iff_not, beq_iff_eq, beq_eq_false_iff_ne, bne_iff_ne, bne_eq_false_iff_eq, ne_eq, Decidable.not_not, Bool.and_eq_true, Bool.and_eq_false_iff, Bool.or_eq_true, Bool.or_eq_false_iff, Int.ofNat_lt, Int.ofNat_le, Bool.not_eq_eq_eq_not, Bool.not_true, Bool.not_false] at h1) <;> try simp (disch := omega) only [go_sem, Nat.reduceEqDiff, Nat.reduceAdd, Nat.reduceSub, Int.reduceAdd, Int.reduceSub, Int.reduceToNat]
  · refine den_fin [some (0, none)] (by (try simp (disch := omega) only [go_sem, Nat.reduceEqDiff, Nat.reduceAdd, Nat.reduceSub, Int.reduceAdd, Int.reduceSub, Int.reduceToNat]) <;> omega) _ (by simp only [go_sem]; rfl) (by rfl) (by rfl) ?_
    simp (disch := omega) only [go_sem, Nat.reduceEqDiff, Nat.reduceAdd, Nat.reduceSub, Int.reduceAdd, Int.reduceSub, Int.reduceToNat]
    omega
  · refine den_fin [some (0, none)] (by (try simp (disch := omega) only [go_sem, Nat.reduceEqDiff, Nat.reduceAdd, Nat.reduceSub, Int.reduceAdd, Int.reduceSub, Int.reduceToNat]) <;> omega) _ (by simp only [go_sem]; rfl) (by rfl) (by rfl) ?_
    simp (disch := omega) only [go_sem, Nat.reduceEqDiff, Nat.reduceAdd, Nat.reduceSub, Int.reduceAdd, Int.reduceSub, Int.reduceToNat]
    omega
def szLTag (l : List TagD) : List Int := [(l.length : Int)]
theorem szLTag_nn (l : List TagD) : ∀ n ∈ szLTag l, 0 ≤ n := by
  intro n hn
  simp only [szLTag, List.mem_cons, List.mem_map, List.not_mem_nil, or_false] at hn
  omega
theorem laws_toTagS (l : List TagD) (hl : l.length ≤ 1048576) : CallA Try.prog 57 [.sc (.sl 0 0 l.length)] [some ⟨l.map TagD.cs, 5, 112, false, true⟩] (.sc (.sl 1 0 l.length)) [some ⟨l.map TagD.cs, 5, 112, false, true⟩, some ⟨l.map TagD.cs, 5, 89, true, true⟩] := by
  refine callA_of Try.func57 (by kernel_rfl) rfl fun E hE => run_den 400 ?_
  simp (disch := omega) only [Try.ntmps57, Try.results57, go_sem, Nat.reduceEqDiff, Nat.reduceAdd, Nat.reduceSub, Int.reduceAdd, Int.reduceSub, Int.reduceToNat]
  refine den_lp 1 hE (fun s (k : Nat) => s.at [5, 6, 7, 8, 9, 10, 11, 12, 13, 14, 15, 16, 17, 18, 19, 20, 21] [(4, .sc (.int .i64 (k : Nat)))] ([some ⟨l.map TagD.cs, 5, 112, false, true⟩, some ⟨(l.take k).map TagD.cs ++ List.replicate (l.length - k) [.int .i64 0, .int .i64 0, .int .i64 0, .int .i64 0, .int .i64 0], 5, 89, true, true⟩])) (fun (k : Nat) => k ≤ l.length) (fun (k : Nat) => l.length - k) 0 [some (0, none), some (1, none)] (by (try simp (disch := omega) only [go_sem, Nat.reduceEqDiff, Nat.reduceAdd, Nat.reduceSub, Int.reduceAdd, Int.reduceSub, Int.reduceToNat]) <;> omega) (Nat.zero_le _) (weak_mk (by rfl) (by rfl) ?_) fun k hk N hN => ?_
  · try simp (disch := omega) only [go_sem, Nat.reduceEqDiff, Nat.reduceAdd, Nat.reduceSub, Int.reduceAdd, Int.reduceSub, Int.reduceToNat]
    try simp
  · refine run_den 400 ?_
    try simp (disch := omega) only [go_sem, Nat.reduceEqDiff, Nat.reduceAdd, Nat.reduceSub, Int.reduceAdd, Int.reduceSub, Int.reduceToNat]
    split <;> rename_i h <;> (try simp only [beq_true, beq_false, Bool.not_eq_true', Bool.not_eq_false'] at h) <;> simp (disch := omega) only [go_sem, Nat.reduceEqDiff, Nat.reduceAdd, Nat.reduceSub, Int.reduceAdd, Int.reduceSub, Int.reduceToNat, h] <;> (try simp only [decide_eq_true_eq, decide_eq_false_iff_not, beq_iff_eq, beq_eq_false_iff_ne, bne_iff_ne, bne_eq_false_iff_eq, ne_eq, Decidable.not_not, Bool.and_eq_true, Bool.and_eq_false_iff, Bool.or_eq_true, Bool.or_eq_false_iff, Int.ofNat_lt, Int.ofNat_le, Bool.not_eq_eq_eq_not, Bool.not_true, Bool.not_false] at h) <;> try simp (disch := omega) only [go_sem, Nat.reduceEqDiff, Nat.reduceAdd, Nat.reduceSub, Int.reduceAdd, Int.reduceSub, Int.reduceToNat]
    · try simp (disch := omega) only [go_sem, Nat.reduceEqDiff, Nat.reduceAdd, Nat.reduceSub, Int.reduceAdd, Int.reduceSub, Int.reduceToNat, map_rep_get h, map_rep_len]
      refine den_call (by (try simp (disch := omega) only [go_sem, Nat.reduceEqDiff, Nat.reduceAdd, Nat.reduceSub, Int.reduceAdd, Int.reduceSub, Int.reduceToNat]) <;> omega) (laws_toTag l[k]) [] (by simp only [go_sem]; repeat' first | rfl | constructor) (by rfl) (run_den 400 ?_)
      simp (disch := omega) only [go_sem, Nat.reduceEqDiff, Nat.reduceAdd, Nat.reduceSub, Int.reduceAdd, Int.reduceSub, Int.reduceToNat]
      try simp (disch := omega) only [go_sem, Nat.reduceEqDiff, Nat.reduceAdd, Nat.reduceSub, Int.reduceAdd, Int.reduceSub, Int.reduceToNat, map_rep_get h, map_rep_len]
      refine ⟨by (try simp (disch := omega) only [go_sem, Nat.reduceEqDiff, Nat.reduceAdd, Nat.reduceSub, Int.reduceAdd, Int.reduceSub, Int.reduceToNat, map_rep_len]) <;> omega, hN _ (k + 1) [some (0, none), some (1, none)] (by (try dsimp only); exact h) (by (try dsimp only); omega) (weak_mk (by rfl) (by rfl) ?_)⟩
      try simp (disch := omega) only [go_sem, Nat.reduceEqDiff, Nat.reduceAdd, Nat.reduceSub, Int.reduceAdd, Int.reduceSub, Int.reduceToNat]
      first | exact map_set_app h rfl | (rw [map_set_app h rfl])
    · have hk : k = l.length := by omega
      subst hk
      refine den_fin [some (0, none), some (1, none)] (by (try simp (disch := omega) only [go_sem, Nat.reduceEqDiff, Nat.reduceAdd, Nat.reduceSub, Int.reduceAdd, Int.reduceSub, Int.reduceToNat]) <;> omega) _ (by simp only [go_sem]; rfl) (by rfl) (by rfl) ?_
      simp (disch := omega) only [go_sem, Nat.reduceEqDiff, Nat.reduceAdd, Nat.reduceSub, Int.reduceAdd, Int.reduceSub, Int.reduceToNat]
      rw [map_rep_done]
theorem laws_eqTagS (l : List TagD) (hl : l.length ≤ 4611686018427387904) : CallA Try.prog 67 [.sc (.sl 0 0 l.length), .sc (.sl 1 0 l.length)] [some ⟨l.map TagD.cs, 5, 89, false, true⟩, some ⟨l.map TagD.cs, 5, 89, false, true⟩] (.sc (.bo true)) [some ⟨l.map TagD.cs, 5, 89, false, true⟩, some ⟨l.map TagD.cs, 5, 89, false, true⟩] := by
  refine callA_of Try.func67 (by kernel_rfl) rfl fun E hE => run_den 400 ?_
  simp (disch := omega) only [Try.ntmps67, Try.results67, go_sem, Nat.reduceEqDiff, Nat.reduceAdd, Nat.reduceSub, Int.reduceAdd, Int.reduceSub, Int.reduceToNat]
  refine den_lp 2 hE (fun s (k : Nat) => s.at [4, 6, 7, 8, 9, 10, 11, 12, 13, 14, 15, 16, 17, 18, 19, 20, 21, 22, 23, 24, 25, 26] [(5, .sc (.int .i64 (k : Nat)))] (s.hp)) (fun (k : Nat) => k ≤ l.length) (fun (k : Nat) => l.length - k) 0 [some (0, none), some (1, none)] (by (try simp (disch := omega) only [go_sem, Nat.reduceEqDiff, Nat.reduceAdd, Nat.reduceSub, Int.reduceAdd, Int.reduceSub, Int.reduceToNat]) <;> omega) (Nat.zero_le _) (weak_mk (by rfl) (by rfl) ?_) fun k hk N hN => ?_
  · try simp (disch := omega) only [go_sem, Nat.reduceEqDiff, Nat.reduceAdd, Nat.reduceSub, Int.reduceAdd, Int.reduceSub, Int.reduceToNat]
  · refine run_den 400 ?_
    try simp (disch := omega) only [go_sem, Nat.reduceEqDiff, Nat.reduceAdd, Nat.reduceSub, Int.reduceAdd, Int.reduceSub, Int.reduceToNat]
    split <;> rename_i h <;> (try simp only [beq_true, beq_false, Bool.not_eq_true', Bool.not_eq_false'] at h) <;> simp (disch := omega) only [go_sem, Nat.reduceEqDiff, Nat.reduceAdd, Nat.reduceSub, Int.reduceAdd, Int.reduceSub, Int.reduceToNat, h] <;> (try simp only [decide_eq_true_eq, decide_eq_false_iff_not, beq_iff_eq, beq_eq_false_iff_ne, bne_iff_ne, bne_eq_false_iff_eq, ne_eq, Decidable.not_not, Bool.and_eq_true, Bool.and_eq_false_iff, Bool.or_eq_true, Bool.or_eq_false_iff, Int.ofNat_lt, Int.ofNat_le, Bool.not_eq_eq_eq_not, Bool.not_true, Bool.not_false] at h) <;> try simp (disch := omega) only [go_sem, Nat.reduceEqDiff, Nat.reduceAdd, Nat.reduceSub, Int.reduceAdd, Int.reduceSub, Int.reduceToNat]
    · refine den_draw1 [0, 1, 2, 3, 4, 5, 6, 7, 8, 9] (by kernel_rfl) (trivial) (by kernel_rfl) (runD_den 400 ?_)
      simp (disch := omega) only [go_sem, Nat.reduceEqDiff, Nat.reduceAdd, Nat.reduceSub, Int.reduceAdd, Int.reduceSub, Int.reduceToNat]
      refine den_callD (by (try simp (disch := omega) only [go_sem, Nat.reduceEqDiff, Nat.reduceAdd, Nat.reduceSub, Int.reduceAdd, Int.reduceSub, Int.reduceToNat]) <;> omega) (laws_eqTag l[k]) [] (by simp only [go_sem]; repeat' first | rfl | constructor) (by rfl) (by rfl) (runD_den 400 ?_)
      simp (disch := omega) only [go_sem, Nat.reduceEqDiff, Nat.reduceAdd, Nat.reduceSub, Int.reduceAdd, Int.reduceSub, Int.reduceToNat]
      refine ⟨by (try simp (disch := omega) only [go_sem, Nat.reduceEqDiff, Nat.reduceAdd, Nat.reduceSub, Int.reduceAdd, Int.reduceSub, Int.reduceToNat]) <;> omega, run_den 400 ?_⟩
      try simp (disch := omega) only [go_sem, Nat.reduceEqDiff, Nat.reduceAdd, Nat.reduceSub, Int.reduceAdd, Int.reduceSub, Int.reduceToNat]
      refine ⟨by (try simp (disch := omega) only [go_sem, Nat.reduceEqDiff, Nat.reduceAdd, Nat.reduceSub, Int.reduceAdd, Int.reduceSub, Int.reduceToNat]) <;> omega, hN _ (k + 1) [some (0, none), some (1, none)] (by (try dsimp only); exact h) (by (try dsimp only); omega) (weak_mk (by rfl) (by rfl) ?_)⟩
      try simp (disch := omega) only [go_sem, Nat.reduceEqDiff, Nat.reduceAdd, Nat.reduceSub, Int.reduceAdd, Int.reduceSub, Int.reduceToNat]
    · refine den_fin [some (0, none), some (1, none)] (by (try simp (disch := omega) only [go_sem, Nat.reduceEqDiff, Nat.reduceAdd, Nat.reduceSub, Int.reduceAdd, Int.reduceSub, Int.reduceToNat]) <;> omega) _ (by simp only [go_sem]; rfl) (by rfl) (by rfl) ?_
      simp (disch := omega) only [go_sem, Nat.reduceEqDiff, Nat.reduceAdd, Nat.reduceSub, Int.reduceAdd, Int.reduceSub, Int.reduceToNat]
theorem laws_szTagS (l : List TagD) (m : Int) (hl : l.length ≤ 9223372036854775807) (h0 : 0 ≤ m) (h : m ≤ 1048576) : CallA Try.prog 47 [.sc (.sl 0 0 l.length), .sc (.int .i64 m)] [some ⟨l.map TagD.cs, 5, 112, false, true⟩] (.sc (.int .i64 (szGo m (szLTag l)))) [some ⟨l.map TagD.cs, 5, 112, false, true⟩] := by
  obtain ⟨R, hR⟩ : ∃ R, R = szGo m (szLTag l) := ⟨_, rfl⟩
  rw [← hR]
  simp only [szGo, szLTag] at hR
  refine callA_of Try.func47 (by kernel_rfl) rfl fun E hE => run_den 400 ?_
  simp (disch := omega) only [Try.ntmps47, Try.results47, go_sem, Nat.reduceEqDiff, Nat.reduceAdd, Nat.reduceSub, Int.reduceAdd, Int.reduceSub, Int.reduceToNat]
  split <;> rename_i h1 <;> (try simp only [beq_true, beq_false, Bool.not_eq_true', Bool.not_eq_false'] at h1) <;> simp (disch := omega) only [go_sem, Nat.reduceEqDiff, Nat.reduceAdd, Nat.reduceSub, Int.reduceAdd, Int.reduceSub, Int.reduceToNat, h1] <;> (try simp only [decide_eq_true_eq, decide_eq_false_iff_not, beq_iff_eq, beq_eq_false_iff_ne, bne_iff_ne, bne_eq_false_iff_eq, ne_eq, Decidable.not_not, Bool.and_eq_true, Bool.and_eq_false_iff, Bool.or_eq_true, Bool.or_eq_false_iff, Int.ofNat_lt, Int.ofNat_le, Bool.not_eq_eq_eq_not, Bool.not_true, Bool.not_false] at h1) <;> try simp (disch := omega) only [go_sem, Nat.reduceEqDiff, Nat.reduceAdd, Nat.reduceSub, Int.reduceAdd, Int.reduceSub, Int.reduceToNat]
  · refine den_fin [some (0, none)] (by (try simp (disch := omega) only [go_sem, Nat.reduceEqDiff, Nat.reduceAdd, Nat.reduceSub, Int.reduceAdd, Int.reduceSub, Int.reduceToNat]) <;> omega) _ (by simp only [go_sem]; rfl) (by rfl) (by rfl) ?_
    simp (disch := omega) only [go_sem, Nat.reduceEqDiff, Nat.reduceAdd, Nat.reduceSub, Int.reduceAdd, Int.reduceSub, Int.reduceToNat]
    omega
  · refine den_fin [some (0, none)] (by (try simp (disch := omega) only [go_sem, Nat.reduceEqDiff, Nat.reduceAdd, Nat.reduceSub, Int.reduceAdd, Int.reduceSub, Int.reduceToNat]) <;> omega) _ (by simp only [go_sem]; rfl) (by rfl) (by rfl) ?_
    simp (disch := omega) only [go_sem, Nat.reduceEqDiff, Nat.reduceAdd, Nat.reduceSub, Int.reduceAdd, Int.reduceSub, Int.reduceToNat]
    omega
def szLLetter (l : List LetterD) : List Int := (l.length : Int) :: l.map fun y => (y.text.length : Int)
theorem szLLetter_nn (l : List LetterD) : ∀ n ∈ szLLetter l, 0 ≤ n := by
  intro n hn
  simp only [szLLetter, List.mem_cons, List.mem_map, List.not_mem_nil, or_false] at hn
  rcases hn with rfl | ⟨y, _, rfl⟩ <;> omega
theorem laws_toLetterS (l : List LetterD) (hl : l.length ≤ 1048576) : CallA Try.prog 29 [.sc (.sl 0 0 l.length)] [some ⟨l.map LetterD.cs, 19, 114, false, true⟩] (.sc (.sl 1 0 l.length)) [some ⟨l.map LetterD.cs, 19, 114, false, true⟩, some ⟨l.map LetterD.cs, 19, 91, true, true⟩] := by
  refine callA_of Try.func29 (by kernel_rfl) rfl fun E hE => run_den 400 ?_
  simp (disch := omega) only [Try.ntmps29, Try.results29, go_sem, Nat.reduceEqDiff, Nat.reduceAdd, Nat.reduceSub, Int.reduceAdd, Int.reduceSub, Int.reduceToNat]
  refine den_lp 1 hE (fun s (k : Nat) => s.at [5, 6, 7, 8, 9, 10, 11, 12, 13, 14, 15, 16, 17, 18, 19, 20, 21] [(4, .sc (.int .i64 (k : Nat)))] ([some ⟨l.map LetterD.cs, 19, 114, false, true⟩, some ⟨(l.take k).map LetterD.cs ++ List.replicate (l.length - k) [.int .i64 0, .int .i64 0, .int .i64 0, .int .i64 0, .int .i64 0, .int .i64 0, .int .i64 0, .int .i64 0, .int .i64 0, .int .i64 0, .int .i64 0, .int .i64 0, .int .i64 0, .int .i64 0, .int .i64 0, .int .i64 0, .bo false, .int .i64 0, .st []], 19, 91, true, true⟩])) (fun (k : Nat) => k ≤ l.length) (fun (k : Nat) => l.length - k) 0 [some (0, none), some (1, none)] (by (try simp (disch := omega) only [go_sem, Nat.reduceEqDiff, Nat.reduceAdd, Nat.reduceSub, Int.reduceAdd, Int.reduceSub, Int.reduceToNat]) <;> omega) (Nat.zero_le _) (weak_mk (by rfl) (by rfl) ?_) fun k hk N hN => ?_
  · try simp (disch := omega) only [go_sem, Nat.reduceEqDiff, Nat.reduceAdd, Nat.reduceSub, Int.reduceAdd, Int.reduceSub, Int.reduceToNat]
    try simp
  · refine run_den 400 ?_
    try simp (disch := omega) only [go_sem, Nat.reduceEqDiff, Nat.reduceAdd, Nat.reduceSub, Int.reduceAdd, Int.reduceSub, Int.reduceToNat]
    split <;> rename_i h <;> (try simp only [beq_true, beq_false, Bool.not_eq_true', Bool.not_eq_false'] at h) <;> simp (disch := omega) only [go_sem, Nat.reduceEqDiff, Nat.reduceAdd, Nat.reduceSub, Int.reduceAdd, Int.reduceSub, Int.reduceToNat, h] <;> (try simp only [decide_eq_true_eq, decide_eq_false_iff_not, beq_iff_eq, beq_eq_false_iff_ne, bne_iff_ne, bne_eq_false_iff_eq, ne_eq, Decidable.not_not, Bool.and_eq_true, Bool.and_eq_false_iff, Bool.or_eq_true, Bool.or_eq_false_iff, Int.ofNat_lt, Int.ofNat_le, Bool.not_eq_eq_eq_not, Bool.not_true, Bool.not_false] at h) <;> try simp (disch := omega) only [go_sem, Nat.reduceEqDiff, Nat.reduceAdd, Nat.reduceSub, Int.reduceAdd, Int.reduceSub, Int.reduceToNat]
    · try simp (disch := omega) only [go_sem, Nat.reduceEqDiff, Nat.reduceAdd, Nat.reduceSub, Int.reduceAdd, Int.reduceSub, Int.reduceToNat, map_rep_get h, map_rep_len]
      refine den_call (by (try simp (disch := omega) only [go_sem, Nat.reduceEqDiff, Nat.reduceAdd, Nat.reduceSub, Int.reduceAdd, Int.reduceSub, Int.reduceToNat]) <;> omega) (laws_toLetter l[k]) [] (by simp only [go_sem]; repeat' first | rfl | constructor) (by rfl) (run_den 400 ?_)
      simp (disch := omega) only [go_sem, Nat.reduceEqDiff, Nat.reduceAdd, Nat.reduceSub, Int.reduceAdd, Int.reduceSub, Int.reduceToNat]
      try simp (disch := omega) only [go_sem, Nat.reduceEqDiff, Nat.reduceAdd, Nat.reduceSub, Int.reduceAdd, Int.reduceSub, Int.reduceToNat, map_rep_get h, map_rep_len]
      refine ⟨by (try simp (disch := omega) only [go_sem, Nat.reduceEqDiff, Nat.reduceAdd, Nat.reduceSub, Int.reduceAdd, Int.reduceSub, Int.reduceToNat, map_rep_len]) <;> omega, hN _ (k + 1) [some (0, none), some (1, none)] (by (try dsimp only); exact h) (by (try dsimp only); omega) (weak_mk (by rfl) (by rfl) ?_)⟩
      try simp (disch := omega) only [go_sem, Nat.reduceEqDiff, Nat.reduceAdd, Nat.reduceSub, Int.reduceAdd, Int.reduceSub, Int.reduceToNat]
      first | exact map_set_app h rfl | (rw [map_set_app h rfl])
    · have hk : k = l.length := by omega
      subst hk
      refine den_fin [some (0, none), some (1, none)] (by (try simp (disch := omega) only [go_sem, Nat.reduceEqDiff, Nat.reduceAdd, Nat.reduceSub, Int.reduceAdd, Int.reduceSub, Int.reduceToNat]) <;> omega) _ (by simp only [go_sem]; rfl) (by rfl) (by rfl) ?_
      simp (disch := omega) only [go_sem, Nat.reduceEqDiff, Nat.reduceAdd, Nat.reduceSub, Int.reduceAdd, Int.reduceSub, Int.reduceToNat]
      rw [map_rep_done]
theorem laws_eqLetterS (l : List LetterD) (hl : l.length ≤ 4611686018427387904) : CallA Try.prog 35 [.sc (.sl 0 0 l.length), .sc (.sl 1 0 l.length)] [some ⟨l.map LetterD.cs, 19, 91, false, true⟩, some ⟨l.map LetterD.cs, 19, 91, false, true⟩] (.sc (.bo true)) [some ⟨l.map LetterD.cs, 19, 91, false, true⟩, some ⟨l.map LetterD.cs, 19, 91, false, true⟩] := by
  refine callA_of Try.func35 (by kernel_rfl) rfl fun E hE => run_den 400 ?_
  simp (disch := omega) only [Try.ntmps35, Try.results35, go_sem, Nat.reduceEqDiff, Nat.reduceAdd, Nat.reduceSub, Int.reduceAdd, Int.reduceSub, Int.reduceToNat]
  refine den_lp 2 hE (fun s (k : Nat) => s.at [4, 6, 7, 8, 9, 10, 11, 12, 13, 14, 15, 16, 17, 18, 19, 20, 21, 22, 23, 24, 25, 26] [(5, .sc (.int .i64 (k : Nat)))] (s.hp)) (fun (k : Nat) => k ≤ l.length) (fun (k : Nat) => l.length - k) 0 [some (0, none), some (1, none)] (by (try simp (disch := omega) only [go_sem, Nat.reduceEqDiff, Nat.reduceAdd, Nat.reduceSub, Int.reduceAdd, Int.reduceSub, Int.reduceToNat]) <;> omega) (Nat.zero_le _) (weak_mk (by rfl) (by rfl) ?_) fun k hk N hN => ?_
  · try simp (disch := omega) only [go_sem, Nat.reduceEqDiff, Nat.reduceAdd, Nat.reduceSub, Int.reduceAdd, Int.reduceSub, Int.reduceToNat]
  · refine run_den 400 ?_
    try simp (disch := omega) only [go_sem, Nat.reduceEqDiff, Nat.reduceAdd, Nat.reduceSub, Int.reduceAdd, Int.reduceSub, Int.reduceToNat]
    split <;> rename_i h <;> (try simp only [beq_true, beq_false, Bool.not_eq_true', Bool.not_eq_false'] at h) <;> simp (disch := omega) only [go_sem, Nat.reduceEqDiff, Nat.reduceAdd, Nat.reduceSub, Int.reduceAdd, Int.reduceSub, Int.reduceToNat, h] <;> (try simp only [decide_eq_true_eq, decide_eq_false_iff_not, beq_iff_eq, beq_eq_false_iff_ne, bne_iff_ne, bne_eq_false_iff_eq, ne_eq, Decidable.not_not, Bool.and_eq_true, Bool.and_eq_false_iff, Bool.or_eq_true, Bool.or_eq_false_iff, Int.ofNat_lt, Int.ofNat_le, Bool.not_eq_eq_eq_not, Bool.not_true, Bool.not_false] at h) <;> try simp (disch := omega) only [go_sem, Nat.reduceEqDiff, Nat.reduceAdd, Nat.reduceSub, Int.reduceAdd, Int.reduceSub, Int.reduceToNat]
    · refine den_draw1 [0, 1, 2, 3, 4, 5, 6, 7, 8, 9] (by kernel_rfl) (trivial) (by kernel_rfl) (runD_den 400 ?_)
      simp (disch := omega) only [go_sem, Nat.reduceEqDiff, Nat.reduceAdd, Nat.reduceSub, Int.reduceAdd, Int.reduceSub, Int.reduceToNat]
      refine den_callD (by (try simp (disch := omega) only [go_sem, Nat.reduceEqDiff, Nat.reduceAdd, Nat.reduceSub, Int.reduceAdd, Int.reduceSub, Int.reduceToNat]) <;> omega) (laws_eqLetter l[k]) [] (by simp only [go_sem]; repeat' first | rfl | constructor) (by rfl) (by rfl) (runD_den 400 ?_)
      simp (disch := omega) only [go_sem, Nat.reduceEqDiff, Nat.reduceAdd, Nat.reduceSub, Int.reduceAdd, Int.reduceSub, Int.reduceToNat]
      refine ⟨by (try simp (disch := omega) only [go_sem, Nat.reduceEqDiff, Nat.reduceAdd, Nat.reduceSub, Int.reduceAdd, Int.reduceSub, Int.reduceToNat]) <;> omega, run_den 400 ?_⟩
      try simp (disch := omega) only [go_sem, Nat.reduceEqDiff, Nat.reduceAdd, Nat.reduceSub, Int.reduceAdd, Int.reduceSub, Int.reduceToNat]
      refine ⟨by (try simp (disch := omega) only [go_sem, Nat.reduceEqDiff, Nat.reduceAdd, Nat.reduceSub, Int.reduceAdd, Int.reduceSub, Int.reduceToNat]) <;> omega, hN _ (k + 1) [some (0, none), some (1, none)] (by (try dsimp only); exact h) (by (try dsimp only); omega) (weak_mk (by rfl) (by rfl) ?_)⟩
      try simp (disch := omega) only [go_sem, Nat.reduceEqDiff, Nat.reduceAdd, Nat.reduceSub, Int.reduceAdd, Int.reduceSub, Int.reduceToNat]
    · refine den_fin [some (0, none), some (1, none)] (by (try simp (disch := omega) only [go_sem, Nat.reduceEqDiff, Nat.reduceAdd, Nat.reduceSub, Int.reduceAdd, Int.reduceSub, Int.reduceToNat]) <;> omega) _ (by simp only [go_sem]; rfl) (by rfl) (by rfl) ?_
      simp (disch := omega) only [go_sem, Nat.reduceEqDiff, Nat.reduceAdd, Nat.reduceSub, Int.reduceAdd, Int.reduceSub, Int.reduceToNat]
theorem laws_szLetterS (l : List LetterD) (m : Int) (hw : ∀ y ∈ l, y.wf) (hl : l.length ≤ 9223372036854775807) (h0 : 0 ≤ m) (h : m ≤ 1048576) : CallA Try.prog 24 [.sc (.sl 0 0 l.length), .sc (.int .i64 m)] [some ⟨l.map LetterD.cs, 19, 114, false, true⟩] (.sc (.int .i64 (szGo m (szLLetter l)))) [some ⟨l.map LetterD.cs, 19, 114, false, true⟩] := by
  obtain ⟨R, hR⟩ : ∃ R, R = szGo m (szLLetter l) := ⟨_, rfl⟩
  rw [← hR]
  simp only [szGo, szLLetter] at hR
  refine callA_of Try.func24 (by kernel_rfl) rfl fun E hE => run_den 400 ?_
  simp (disch := omega) only [Try.ntmps24, Try.results24, go_sem, Nat.reduceEqDiff, Nat.reduceAdd, Nat.reduceSub, Int.reduceAdd, Int.reduceSub, Int.reduceToNat]
  split <;> rename_i h1 <;> (try simp only [beq_true, beq_false, Bool.not_eq_true', Bool.not_eq_false'] at h1) <;> simp (disch := omega) only [go_sem, Nat.reduceEqDiff, Nat.reduceAdd, Nat.reduceSub, Int.reduceAdd, Int.reduceSub, Int.reduceToNat, h1] <;> (try simp only [decide_eq_true_eq, decide_eq_false_iff_not, beq_iff_eq, beq_eq_false_iff_ne, bne_iff_ne, bne_eq_false_iff_eq, ne_eq, Decidable.not_not, Bool.and_eq_true, Bool.and_eq_false_iff, Bool.or_eq_true, Bool.or_eq_false_iff, Int.ofNat_lt, Int.ofNat_le, Bool.not_eq_eq_eq_not, Bool.not_true, Bool.not_false] at h1) <;> try simp (disch := omega) only [go_sem, Nat.reduceEqDiff, Nat.reduceAdd, Nat.reduceSub, Int.reduceAdd, Int.reduceSub, Int.reduceToNat]
  · refine den_fin [some (0, none)] (by (try simp (disch := omega) only [go_sem, Nat.reduceEqDiff, Nat.reduceAdd, Nat.reduceSub, Int.reduceAdd, Int.reduceSub, Int.reduceToNat]) <;> omega) _ (by simp only [go_sem]; rfl) (by rfl) (by rfl) ?_
    simp (disch := omega) only [go_sem, Nat.reduceEqDiff, Nat.reduceAdd, Nat.reduceSub, Int.reduceAdd, Int.reduceSub, Int.reduceToNat]
    omega
  · rw [if_neg (by omega)] at hR
    have hs : R = szGo (m - l.length) ((l.drop 0).map fun y => (y.text.length : Int)) := hR
    refine den_lp 1 hE (fun s (x : Nat × Int) => s.at [4, 6, 7, 8, 9, 10, 11, 12, 13, 14, 15, 16, 17, 18, 19, 20, 21, 22, 23, 24, 25] [(5, .sc (.int .i64 (x.1 : Nat))), (1, .sc (.int .i64 x.2))] (s.hp)) (fun (x : Nat × Int) => x.1 ≤ l.length ∧ 0 ≤ x.2 ∧ x.2 ≤ 1048576 ∧ R = szGo x.2 ((l.drop x.1).map fun y => (y.text.length : Int))) (fun (x : Nat × Int) => l.length - x.1) (0, m - l.length) [some (0, none)] (by (try simp (disch := omega) only [go_sem, Nat.reduceEqDiff, Nat.reduceAdd, Nat.reduceSub, Int.reduceAdd, Int.reduceSub, Int.reduceToNat]) <;> omega) (⟨Nat.zero_le _, by omega, by omega, hs⟩) (weak_mk (by rfl) (by rfl) ?_) fun x hx N hN => ?_
    · try simp (disch := omega) only [go_sem, Nat.reduceEqDiff, Nat.reduceAdd, Nat.reduceSub, Int.reduceAdd, Int.reduceSub, Int.reduceToNat]
    · obtain ⟨k, r⟩ := x
      obtain ⟨hk1, hk2, hk3, hk4⟩ := hx
      dsimp only at hk1 hk2 hk3 hk4
      refine run_den 400 ?_
      try simp (disch := omega) only [go_sem, Nat.reduceEqDiff, Nat.reduceAdd, Nat.reduceSub, Int.reduceAdd, Int.reduceSub, Int.reduceToNat]
      split <;> rename_i h2 <;> (try simp only [beq_true, beq_false, Bool.not_eq_true', Bool.not_eq_false'] at h2) <;> simp (disch := omega) only [go_sem, Nat.reduceEqDiff, Nat.reduceAdd, Nat.reduceSub, Int.reduceAdd, Int.reduceSub, Int.reduceToNat, h2] <;> (try simp only [decide_eq_true_eq, decide_eq_false_iff_not, beq_iff_eq, beq_eq_false_iff_ne, bne_iff_ne, bne_eq_false_iff_eq, ne_eq, Decidable.not_not, Bool.and_eq_true, Bool.and_eq_false_iff, Bool.or_eq_true, Bool.or_eq_false_iff, Int.ofNat_lt, Int.ofNat_le, Bool.not_eq_eq_eq_not, Bool.not_true, Bool.not_false] at h2) <;> try simp (disch := omega) only [go_sem, Nat.reduceEqDiff, Nat.reduceAdd, Nat.reduceSub, Int.reduceAdd, Int.reduceSub, Int.reduceToNat]
      · rw [szGo_step h2] at hk4
        have hwf : l[k].wf := hw _ (List.getElem_mem h2)
        have hlx : l[k].text.length ≤ 9223372036854775807 := (fun h => h.2.2.2.2.2.2.2.2.2.2.2.2.2.2.2.2.2) hwf
        refine den_call (by (try simp (disch := omega) only [go_sem, Nat.reduceEqDiff, Nat.reduceAdd, Nat.reduceSub, Int.reduceAdd, Int.reduceSub, Int.reduceToNat]) <;> omega) (laws_szLetter l[k] r hlx hk2 hk3) [] (by simp only [go_sem]; repeat' first | rfl | constructor) (by rfl) (run_den 400 ?_)
        simp (disch := omega) only [go_sem, Nat.reduceEqDiff, Nat.reduceAdd, Nat.reduceSub, Int.reduceAdd, Int.reduceSub, Int.reduceToNat]
        have eg : szGo r [(l[k].text.length : Int)] = (if r - (l[k].text.length : Int) < 0 then -1 else r - (l[k].text.length : Int)) := rfl
        generalize szGo r [(l[k].text.length : Int)] = g at eg
        by_cases h3 : r - (l[k].text.length : Int) < 0
        · rw [if_pos h3] at eg hk4
          subst eg
          try simp (disch := omega) only [go_sem, Nat.reduceEqDiff, Nat.reduceAdd, Nat.reduceSub, Int.reduceAdd, Int.reduceSub, Int.reduceToNat]
          refine den_fin [some (0, none)] (by (try simp (disch := omega) only [go_sem, Nat.reduceEqDiff, Nat.reduceAdd, Nat.reduceSub, Int.reduceAdd, Int.reduceSub, Int.reduceToNat]) <;> omega) _ (by simp only [go_sem]; rfl) (by rfl) (by rfl) ?_
          simp (disch := omega) only [go_sem, Nat.reduceEqDiff, Nat.reduceAdd, Nat.reduceSub, Int.reduceAdd, Int.reduceSub, Int.reduceToNat]
          omega
        · rw [if_neg h3] at eg hk4
          subst eg
          try simp (disch := omega) only [go_sem, Nat.reduceEqDiff, Nat.reduceAdd, Nat.reduceSub, Int.reduceAdd, Int.reduceSub, Int.reduceToNat]
          refine ⟨by (try simp (disch := omega) only [go_sem, Nat.reduceEqDiff, Nat.reduceAdd, Nat.reduceSub, Int.reduceAdd, Int.reduceSub, Int.reduceToNat]) <;> omega, hN _ (k + 1, r - (l[k].text.length : Int)) [some (0, none)] (by (try dsimp only); exact ⟨by omega, by omega, by omega, hk4⟩) (by (try dsimp only); omega) (weak_mk (by rfl) (by rfl) ?_)⟩
          try simp (disch := omega) only [go_sem, Nat.reduceEqDiff, Nat.reduceAdd, Nat.reduceSub, Int.reduceAdd, Int.reduceSub, Int.reduceToNat]
      · refine den_fin [some (0, none)] (by (try simp (disch := omega) only [go_sem, Nat.reduceEqDiff, Nat.reduceAdd, Nat.reduceSub, Int.reduceAdd, Int.reduceSub, Int.reduceToNat]) <;> omega) _ (by simp only [go_sem]; rfl) (by rfl) (by rfl) ?_
        simp (disch := omega) only [go_sem, Nat.reduceEqDiff, Nat.reduceAdd, Nat.reduceSub, Int.reduceAdd, Int.reduceSub, Int.reduceToNat]
        rw [List.drop_eq_nil_of_le (by omega)] at hk4
        exact hk4.symm
def szLSub (l : List SubD) : List Int := [(l.length : Int)]
theorem szLSub_nn (l : List SubD) : ∀ n ∈ szLSub l, 0 ≤ n := by
  intro n hn
  simp only [szLSub, List.mem_cons, List.mem_map, List.not_mem_nil, or_false] at hn
  omega
theorem laws_toSubS (l : List SubD) (hl : l.length ≤ 1048576) : CallA Try.prog 51 [.sc (.sl 0 0 l.length)] [some ⟨l.map SubD.cs, 10, 151, false, true⟩] (.sc (.sl 1 0 l.length)) [some ⟨l.map SubD.cs, 10, 151, false, true⟩, some ⟨l.map SubD.cs, 10, 87, true, true⟩] := by
  refine callA_of Try.func51 (by kernel_rfl) rfl fun E hE => run_den 400 ?_
  simp (disch := omega) only [Try.ntmps51, Try.results51, go_sem, Nat.reduceEqDiff, Nat.reduceAdd, Nat.reduceSub, Int.reduceAdd, Int.reduceSub, Int.reduceToNat]
  refine den_lp 1 hE (fun s (k : Nat) => s.at [5, 6, 7, 8, 9, 10, 11, 12, 13, 14, 15, 16, 17, 18, 19, 20, 21] [(4, .sc (.int .i64 (k : Nat)))] ([some ⟨l.map SubD.cs, 10, 151, false, true⟩, some ⟨(l.take k).map SubD.cs ++ List.replicate (l.length - k) [.int .i64 0, .int .i64 0, .int .i64 0, .int .i64 0, .bo false, .int .i64 0, .int .i64 0, .int .i64 0, .int .i64 0, .int .i64 0], 10, 87, true, true⟩])) (fun (k : Nat) => k ≤ l.length) (fun (k : Nat) => l.length - k) 0 [some (0, none), some (1, none)] (by (try simp (disch := omega) only [go_sem, Nat.reduceEqDiff, Nat.reduceAdd, Nat.reduceSub, Int.reduceAdd, Int.reduceSub, Int.reduceToNat]) <;> omega) (Nat.zero_le _) (weak_mk (by rfl) (by rfl) ?_) fun k hk N hN => ?_
  · try simp (disch := omega) only [go_sem, Nat.reduceEqDiff, Nat.reduceAdd, Nat.reduceSub, Int.reduceAdd, Int.reduceSub, Int.reduceToNat]
    try simp
  · refine run_den 400 ?_
    try simp (disch := omega) only [go_sem, Nat.reduceEqDiff, Nat.reduceAdd, Nat.reduceSub, Int.reduceAdd, Int.reduceSub, Int.reduceToNat]
    split <;> rename_i h <;> (try simp only [beq_true, beq_false, Bool.not_eq_true', Bool.not_eq_false'] at h) <;> simp (disch := omega) only [go_sem, Nat.reduceEqDiff, Nat.reduceAdd, Nat.reduceSub, Int.reduceAdd, Int.reduceSub, Int.reduceToNat, h] <;> (try simp only [decide_eq_true_eq, decide_eq_false_iff_not, beq_iff_eq, beq_eq_false_iff_ne, bne_iff_ne, bne_eq_false_iff_eq, ne_eq, Decidable.not_not, Bool.and_eq_true, Bool.and_eq_false_iff, Bool.or_eq_true, Bool.or_eq_false_iff, Int.ofNat_lt, Int.ofNat_le, Bool.not_eq_eq_eq_not, Bool.not_true, Bool.not_false] at h) <;> try simp (disch := omega) only [go_sem, Nat.reduceEqDiff, Nat.reduceAdd, Nat.reduceSub, Int.reduceAdd, Int.reduceSub, Int.reduceToNat]
    · try simp (disch := omega) only [go_sem, Nat.reduceEqDiff, Nat.reduceAdd, Nat.reduceSub, Int.reduceAdd, Int.reduceSub, Int.reduceToNat, map_rep_get h, map_rep_len]
      refine den_call (by (try simp (disch := omega) only [go_sem, Nat.reduceEqDiff, Nat.reduceAdd, Nat.reduceSub, Int.reduceAdd, Int.reduceSub, Int.reduceToNat]) <;> omega) (laws_toSub l[k]) [] (by simp only [go_sem]; repeat' first | rfl | constructor) (by rfl) (run_den 400 ?_)
      simp (disch := omega) only [go_sem, Nat.reduceEqDiff, Nat.reduceAdd, Nat.reduceSub, Int.reduceAdd, Int.reduceSub, Int.reduceToNat]
      try simp (disch := omega) only [go_sem, Nat.reduceEqDiff, Nat.reduceAdd, Nat.reduceSub, Int.reduceAdd, Int.reduceSub, Int.reduceToNat, map_rep_get h, map_rep_len]
      refine ⟨by (try simp (disch := omega) only [go_sem, Nat.reduceEqDiff, Nat.reduceAdd, Nat.reduceSub, Int.reduceAdd, Int.reduceSub, Int.reduceToNat, map_rep_len]) <;> omega, hN _ (k + 1) [some (0, none), some (1, none)] (by (try dsimp only); exact h) (by (try dsimp only); omega) (weak_mk (by rfl) (by rfl) ?_)⟩
      try simp (disch := omega) only [go_sem, Nat.reduceEqDiff, Nat.reduceAdd, Nat.reduceSub, Int.reduceAdd, Int.reduceSub, Int.reduceToNat]
      first | exact map_set_app h rfl | (rw [map_set_app h rfl])
    · have hk : k = l.length := by omega
      subst hk
      refine den_fin [some (0, none), some (1, none)] (by (try simp (disch := omega) only [go_sem, Nat.reduceEqDiff, Nat.reduceAdd, Nat.reduceSub, Int.reduceAdd, Int.reduceSub, Int.reduceToNat]) <;> omega) _ (by simp only [go_sem]; rfl) (by rfl) (by rfl) ?_
      simp (disch := omega) only [go_sem, Nat.reduceEqDiff, Nat.reduceAdd, Nat.reduceSub, Int.reduceAdd, Int.reduceSub, Int.reduceToNat]
      rw [map_rep_done]
theorem laws_eqSubS (l : List SubD) (hl : l.length ≤ 4611686018427387904) : CallA Try.prog 61 [.sc (.sl 0 0 l.length), .sc (.sl 1 0 l.length)] [some ⟨l.map SubD.cs, 10, 87, false, true⟩, some ⟨l.map SubD.cs, 10, 87, false, true⟩] (.sc (.bo true)) [some ⟨l.map SubD.cs, 10, 87, false, true⟩, some ⟨l.map SubD.cs, 10, 87, false, true⟩] := by
  refine callA_of Try.func61 (by kernel_rfl) rfl fun E hE => run_den 400 ?_
  simp (disch := omega) only [Try.ntmps61, Try.results61, go_sem, Nat.reduceEqDiff, Nat.reduceAdd, Nat.reduceSub, Int.reduceAdd, Int.reduceSub, Int.reduceToNat]
  refine den_lp 2 hE (fun s (k : Nat) => s.at [4, 6, 7, 8, 9, 10, 11, 12, 13, 14, 15, 16, 17, 18, 19, 20, 21, 22, 23, 24, 25, 26] [(5, .sc (.int .i64 (k : Nat)))] (s.hp)) (fun (k : Nat) => k ≤ l.length) (fun (k : Nat) => l.length - k) 0 [some (0, none), some (1, none)] (by (try simp (disch := omega) only [go_sem, Nat.reduceEqDiff, Nat.reduceAdd, Nat.reduceSub, Int.reduceAdd, Int.reduceSub, Int.reduceToNat]) <;> omega) (Nat.zero_le _) (weak_mk (by rfl) (by rfl) ?_) fun k hk N hN => ?_
  · try simp (disch := omega) only [go_sem, Nat.reduceEqDiff, Nat.reduceAdd, Nat.reduceSub, Int.reduceAdd, Int.reduceSub, Int.reduceToNat]
  · refine run_den 400 ?_
    try simp (disch := omega) only [go_sem, Nat.reduceEqDiff, Nat.reduceAdd, Nat.reduceSub, Int.reduceAdd, Int.reduceSub, Int.reduceToNat]
    split <;> rename_i h <;> (try simp only [beq_true, beq_false, Bool.not_eq_true', Bool.not_eq_false'] at h) <;> simp (disch := omega) only [go_sem, Nat.reduceEqDiff, Nat.reduceAdd, Nat.reduceSub, Int.reduceAdd, Int.reduceSub, Int.reduceToNat, h] <;> (try simp only [decide_eq_true_eq, decide_eq_false_iff_not, beq_iff_eq, beq_eq_false_iff_ne, bne_iff_ne, bne_eq_false_iff_eq, ne_eq, Decidable.not_not, Bool.and_eq_true, Bool.and_eq_false_iff, Bool.or_eq_true, Bool.or_eq_false_iff, Int.ofNat_lt, Int.ofNat_le, Bool.not_eq_eq_eq_not, Bool.not_true, Bool.not_false] at h) <;> try simp (disch := omega) only [go_sem, Nat.reduceEqDiff, Nat.reduceAdd, Nat.reduceSub, Int.reduceAdd, Int.reduceSub, Int.reduceToNat]
    · refine den_draw1 [0, 1, 2, 3, 4, 5, 6, 7, 8, 9] (by kernel_rfl) (trivial) (by kernel_rfl) (runD_den 400 ?_)
      simp (disch := omega) only [go_sem, Nat.reduceEqDiff, Nat.reduceAdd, Nat.reduceSub, Int.reduceAdd, Int.reduceSub, Int.reduceToNat]
      refine den_callD (by (try simp (disch := omega) only [go_sem, Nat.reduceEqDiff, Nat.reduceAdd, Nat.reduceSub, Int.reduceAdd, Int.reduceSub, Int.reduceToNat]) <;> omega) (laws_eqSub l[k]) [] (by simp only [go_sem]; repeat' first | rfl | constructor) (by rfl) (by rfl) (runD_den 400 ?_)
      simp (disch := omega) only [go_sem, Nat.reduceEqDiff, Nat.reduceAdd, Nat.reduceSub, Int.reduceAdd, Int.reduceSub, Int.reduceToNat]
      refine ⟨by (try simp (disch := omega) only [go_sem, Nat.reduceEqDiff, Nat.reduceAdd, Nat.reduceSub, Int.reduceAdd, Int.reduceSub, Int.reduceToNat]) <;> omega, run_den 400 ?_⟩
      try simp (disch := omega) only [go_sem, Nat.reduceEqDiff, Nat.reduceAdd, Nat.reduceSub, Int.reduceAdd, Int.reduceSub, Int.reduceToNat]
      refine ⟨by (try simp (disch := omega) only [go_sem, Nat.reduceEqDiff, Nat.reduceAdd, Nat.reduceSub, Int.reduceAdd, Int.reduceSub, Int.reduceToNat]) <;> omega, hN _ (k + 1) [some (0, none), some (1, none)] (by (try dsimp only); exact h) (by (try dsimp only); omega) (weak_mk (by rfl) (by rfl) ?_)⟩
      try simp (disch := omega) only [go_sem, Nat.reduceEqDiff, Nat.reduceAdd, Nat.reduceSub, Int.reduceAdd, Int.reduceSub, Int.reduceToNat]
    · refine den_fin [some (0, none), some (1, none)] (by (try simp (disch := omega) only [go_sem, Nat.reduceEqDiff, Nat.reduceAdd, Nat.reduceSub, Int.reduceAdd, Int.reduceSub, Int.reduceToNat]) <;> omega) _ (by simp only [go_sem]; rfl) (by rfl) (by rfl) ?_
      simp (disch := omega) only [go_sem, Nat.reduceEqDiff, Nat.reduceAdd, Nat.reduceSub, Int.reduceAdd, Int.reduceSub, Int.reduceToNat]
theorem laws_szSubS (l : List SubD) (m : Int) (hl : l.length ≤ 9223372036854775807) (h0 : 0 ≤ m) (h : m ≤ 1048576) : CallA Try.prog 42 [.sc (.sl 0 0 l.length), .sc (.int .i64 m)] [some ⟨l.map SubD.cs, 10, 151, false, true⟩] (.sc (.int .i64 (szGo m (szLSub l)))) [some ⟨l.map SubD.cs, 10, 151, false, true⟩] := by
  obtain ⟨R, hR⟩ : ∃ R, R = szGo m (szLSub l) := ⟨_, rfl⟩
  rw [← hR]
  simp only [szGo, szLSub] at hR
  refine callA_of Try.func42 (by kernel_rfl) rfl fun E hE => run_den 400 ?_
  simp (disch := omega) only [Try.ntmps42, Try.results42, go_sem, Nat.reduceEqDiff, Nat.reduceAdd, Nat.reduceSub, Int.reduceAdd, Int.reduceSub, Int.reduceToNat]
  split <;> rename_i h1 <;> (try simp only [beq_true, beq_false, Bool.not_eq_true', Bool.not_eq_false'] at h1) <;> simp (disch := omega) only [go_sem, Nat.reduceEqDiff, Nat.reduceAdd, Nat.reduceSub, Int.reduceAdd, Int.reduceSub, Int.reduceToNat, h1] <;> (try simp only [decide_eq_true_eq, decide_eq_false_iff_not, beq_iff_eq, beq_eq_false_iff_ne, bne_iff_ne, bne_eq_false_iff_eq, ne_eq, Decidable.not_not, Bool.and_eq_true, Bool.and_eq_false_iff, Bool.or_eq_true, Bool.or_eq_false_iff, Int.ofNat_lt, Int.ofNat_le, Bool.not_eq_eq_eq_not, Bool.not_true, Bool.not_false] at h1) <;> try simp (disch := omega) only [go_sem, Nat.reduceEqDiff, Nat.reduceAdd, Nat.reduceSub, Int.reduceAdd, Int.reduceSub, Int.reduceToNat]
  · refine den_fin [some (0, none)] (by (try simp (disch := omega) only [go_sem, Nat.reduceEqDiff, Nat.reduceAdd, Nat.reduceSub, Int.reduceAdd, Int.reduceSub, Int.reduceToNat]) <;> omega) _ (by simp only [go_sem]; rfl) (by rfl) (by rfl) ?_
    simp (disch := omega) only [go_sem, Nat.reduceEqDiff, Nat.reduceAdd, Nat.reduceSub, Int.reduceAdd, Int.reduceSub, Int.reduceToNat]
    omega
  · refine den_fin [some (0, none)] (by (try simp (disch := omega) only [go_sem, Nat.reduceEqDiff, Nat.reduceAdd, Nat.reduceSub, Int.reduceAdd, Int.reduceSub, Int.reduceToNat]) <;> omega) _ (by simp only [go_sem]; rfl) (by rfl) (by rfl) ?_
    simp (disch := omega) only [go_sem, Nat.reduceEqDiff, Nat.reduceAdd, Nat.reduceSub, Int.reduceAdd, Int.reduceSub, Int.reduceToNat]
    omega
def szLPiece (l : List PieceD) : List Int := (l.length : Int) :: l.map fun y => (y.text.length : Int)
theorem szLPiece_nn (l : List PieceD) : ∀ n ∈ szLPiece l, 0 ≤ n := by
  intro n hn
  simp only [szLPiece, List.mem_cons, List.mem_map, List.not_mem_nil, or_false] at hn
  rcases hn with rfl | ⟨y, _, rfl⟩ <;> omega
theorem laws_toPieceS (l : List PieceD) (hl : l.length ≤ 1048576) : CallA Try.prog 79 [.sc (.sl 0 0 l.length)] [some ⟨l.map PieceD.cs, 2, 169, false, true⟩] (.sc (.sl 1 0 l.length)) [some ⟨l.map PieceD.cs, 2, 169, false, true⟩, some ⟨l.map PieceD.cs, 2, 170, true, true⟩] := by
  refine callA_of Try.func79 (by kernel_rfl) rfl fun E hE => run_den 400 ?_
  simp (disch := omega) only [Try.ntmps79, Try.results79, go_sem, Nat.reduceEqDiff, Nat.reduceAdd, Nat.reduceSub, Int.reduceAdd, Int.reduceSub, Int.reduceToNat]
  refine den_lp 1 hE (fun s (k : Nat) => s.at [5, 6, 7, 8, 9, 10, 11, 12, 13, 14, 15, 16, 17, 18, 19, 20, 21] [(4, .sc (.int .i64 (k : Nat)))] ([some ⟨l.map PieceD.cs, 2, 169, false, true⟩, some ⟨(l.take k).map PieceD.cs ++ List.replicate (l.length - k) [.int .i64 0, .st []], 2, 170, true, true⟩])) (fun (k : Nat) => k ≤ l.length) (fun (k : Nat) => l.length - k) 0 [some (0, none), some (1, none)] (by (try simp (disch := omega) only [go_sem, Nat.reduceEqDiff, Nat.reduceAdd, Nat.reduceSub, Int.reduceAdd, Int.reduceSub, Int.reduceToNat]) <;> omega) (Nat.zero_le _) (weak_mk (by rfl) (by rfl) ?_) fun k hk N hN => ?_
  · try simp (disch := omega) only [go_sem, Nat.reduceEqDiff, Nat.reduceAdd, Nat.reduceSub, Int.reduceAdd, Int.reduceSub, Int.reduceToNat]
    try simp
  · refine run_den 400 ?_
    try simp (disch := omega) only [go_sem, Nat.reduceEqDiff, Nat.reduceAdd, Nat.reduceSub, Int.reduceAdd, Int.reduceSub, Int.reduceToNat]
    split <;> rename_i h <;> (try simp only [beq_true, beq_false, Bool.not_eq_true', Bool.not_eq_false'] at h) <;> simp (disch := omega) only [go_sem, Nat.reduceEqDiff, Nat.reduceAdd, Nat.reduceSub, Int.reduceAdd, Int.reduceSub, Int.reduceToNat, h] <;> (try simp only [decide_eq_true_eq, decide_eq_false_iff_not, beq_iff_eq, beq_eq_false_iff_ne, bne_iff_ne, bne_eq_false_iff_eq, ne_eq, Decidable.not_not, Bool.and_eq_true, Bool.and_eq_false_iff, Bool.or_eq_true, Bool.or_eq_false_iff, Int.ofNat_lt, Int.ofNat_le, Bool.not_eq_eq_eq_not, Bool.not_true, Bool.not_false] at h) <;> try simp (disch := omega) only [go_sem, Nat.reduceEqDiff, Nat.reduceAdd, Nat.reduceSub, Int.reduceAdd, Int.reduceSub, Int.reduceToNat]
    · try simp (disch := omega) only [go_sem, Nat.reduceEqDiff, Nat.reduceAdd, Nat.reduceSub, Int.reduceAdd, Int.reduceSub, Int.reduceToNat, map_rep_get h, map_rep_len]
      refine den_call (by (try simp (disch := omega) only [go_sem, Nat.reduceEqDiff, Nat.reduceAdd, Nat.reduceSub, Int.reduceAdd, Int.reduceSub, Int.reduceToNat]) <;> omega) (laws_toPiece l[k]) [] (by simp only [go_sem]; repeat' first | rfl | constructor) (by rfl) (run_den 400 ?_)
      simp (disch := omega) only [go_sem, Nat.reduceEqDiff, Nat.reduceAdd, Nat.reduceSub, Int.reduceAdd, Int.reduceSub, Int.reduceToNat]
      try simp (disch := omega) only [go_sem, Nat.reduceEqDiff, Nat.reduceAdd, Nat.reduceSub, Int.reduceAdd, Int.reduceSub, Int.reduceToNat, map_rep_get h, map_rep_len]
      refine ⟨by (try simp (disch := omega) only [go_sem, Nat.reduceEqDiff, Nat.reduceAdd, Nat.reduceSub, Int.reduceAdd, Int.reduceSub, Int.reduceToNat, map_rep_len]) <;> omega, hN _ (k + 1) [some (0, none), some (1, none)] (by (try dsimp only); exact h) (by (try dsimp only); omega) (weak_mk (by rfl) (by rfl) ?_)⟩
      try simp (disch := omega) only [go_sem, Nat.reduceEqDiff, Nat.reduceAdd, Nat.reduceSub, Int.reduceAdd, Int.reduceSub, Int.reduceToNat]
      first | exact map_set_app h rfl | (rw [map_set_app h rfl])
    · have hk : k = l.length := by omega
      subst hk
      refine den_fin [some (0, none), some (1, none)] (by (try simp (disch := omega) only [go_sem, Nat.reduceEqDiff, Nat.reduceAdd, Nat.reduceSub, Int.reduceAdd, Int.reduceSub, Int.reduceToNat]) <;> omega) _ (by simp only [go_sem]; rfl) (by rfl) (by rfl) ?_
      simp (disch := omega) only [go_sem, Nat.reduceEqDiff, Nat.reduceAdd, Nat.reduceSub, Int.reduceAdd, Int.reduceSub, Int.reduceToNat]
      rw [map_rep_done]
theorem laws_eqPieceS (l : List PieceD) (hl : l.length ≤ 4611686018427387904) : CallA Try.prog 88 [.sc (.sl 0 0 l.length), .sc (.sl 1 0 l.length)] [some ⟨l.map PieceD.cs, 2, 170, false, true⟩, some ⟨l.map PieceD.cs, 2, 170, false, true⟩] (.sc (.bo true)) [some ⟨l.map PieceD.cs, 2, 170, false, true⟩, some ⟨l.map PieceD.cs, 2, 170, false, true⟩] := by
  refine callA_of Try.func88 (by kernel_rfl) rfl fun E hE => run_den 400 ?_
  simp (disch := omega) only [Try.ntmps88, Try.results88, go_sem, Nat.reduceEqDiff, Nat.reduceAdd, Nat.reduceSub, Int.reduceAdd, Int.reduceSub, Int.reduceToNat]
  refine den_lp 2 hE (fun s (k : Nat) => s.at [4, 6, 7, 8, 9, 10, 11, 12, 13, 14, 15, 16, 17, 18, 19, 20, 21, 22, 23, 24, 25, 26] [(5, .sc (.int .i64 (k : Nat)))] (s.hp)) (fun (k : Nat) => k ≤ l.length) (fun (k : Nat) => l.length - k) 0 [some (0, none), some (1, none)] (by (try simp (disch := omega) only [go_sem, Nat.reduceEqDiff, Nat.reduceAdd, Nat.reduceSub, Int.reduceAdd, Int.reduceSub, Int.reduceToNat]) <;> omega) (Nat.zero_le _) (weak_mk (by rfl) (by rfl) ?_) fun k hk N hN => ?_
  · try simp (disch := omega) only [go_sem, Nat.reduceEqDiff, Nat.reduceAdd, Nat.reduceSub, Int.reduceAdd, Int.reduceSub, Int.reduceToNat]
  · refine run_den 400 ?_
    try simp (disch := omega) only [go_sem, Nat.reduceEqDiff, Nat.reduceAdd, Nat.reduceSub, Int.reduceAdd, Int.reduceSub, Int.reduceToNat]
    split <;> rename_i h <;> (try simp only [beq_true, beq_false, Bool.not_eq_true', Bool.not_eq_false'] at h) <;> simp (disch := omega) only [go_sem, Nat.reduceEqDiff, Nat.reduceAdd, Nat.reduceSub, Int.reduceAdd, Int.reduceSub, Int.reduceToNat, h] <;> (try simp only [decide_eq_true_eq, decide_eq_false_iff_not, beq_iff_eq, beq_eq_false_iff_ne, bne_iff_ne, bne_eq_false_iff_eq, ne_eq, Decidable.not_not, Bool.and_eq_true, Bool.and_eq_false_iff, Bool.or_eq_true, Bool.or_eq_false_iff, Int.ofNat_lt, Int.ofNat_le, Bool.not_eq_eq_eq_not, Bool.not_true, Bool.not_false] at h) <;> try simp (disch := omega) only [go_sem, Nat.reduceEqDiff, Nat.reduceAdd, Nat.reduceSub, Int.reduceAdd, Int.reduceSub, Int.reduceToNat]
    · refine den_draw1 [0, 1, 2, 3, 4, 5, 6, 7, 8, 9] (by kernel_rfl) (trivial) (by kernel_rfl) (runD_den 400 ?_)
      simp (disch := omega) only [go_sem, Nat.reduceEqDiff, Nat.reduceAdd, Nat.reduceSub, Int.reduceAdd, Int.reduceSub, Int.reduceToNat]
      refine den_callD (by (try simp (disch := omega) only [go_sem, Nat.reduceEqDiff, Nat.reduceAdd, Nat.reduceSub, Int.reduceAdd, Int.reduceSub, Int.reduceToNat]) <;> omega) (laws_eqPiece l[k]) [] (by simp only [go_sem]; repeat' first | rfl | constructor) (by rfl) (by rfl) (runD_den 400 ?_)
      simp (disch := omega) only [go_sem, Nat.reduceEqDiff, Nat.reduceAdd, Nat.reduceSub, Int.reduceAdd, Int.reduceSub, Int.reduceToNat]
      refine ⟨by (try simp (disch := omega) only [go_sem, Nat.reduceEqDiff, Nat.reduceAdd, Nat.reduceSub, Int.reduceAdd, Int.reduceSub, Int.reduceToNat]) <;> omega, run_den 400 ?_⟩
      try simp (disch := omega) only [go_sem, Nat.reduceEqDiff, Nat.reduceAdd, Nat.reduceSub, Int.reduceAdd, Int.reduceSub, Int.reduceToNat]
      refine ⟨by (try simp (disch := omega) only [go_sem, Nat.reduceEqDiff, Nat.reduceAdd, Nat.reduceSub, Int.reduceAdd, Int.reduceSub, Int.reduceToNat]) <;> omega, hN _ (k + 1) [some (0, none), some (1, none)] (by (try dsimp only); exact h) (by (try dsimp only); omega) (weak_mk (by rfl) (by rfl) ?_)⟩
      try simp (disch := omega) only [go_sem, Nat.reduceEqDiff, Nat.reduceAdd, Nat.reduceSub, Int.reduceAdd, Int.reduceSub, Int.reduceToNat]
    · refine den_fin [some (0, none), some (1, none)] (by (try simp (disch := omega) only [go_sem, Nat.reduceEqDiff, Nat.reduceAdd, Nat.reduceSub, Int.reduceAdd, Int.reduceSub, Int.reduceToNat]) <;> omega) _ (by simp only [go_sem]; rfl) (by rfl) (by rfl) ?_
      simp (disch := omega) only [go_sem, Nat.reduceEqDiff, Nat.reduceAdd, Nat.reduceSub, Int.reduceAdd, Int.reduceSub, Int.reduceToNat]
theorem laws_szPieceS (l : List PieceD) (m : Int) (hw : ∀ y ∈ l, y.wf) (hl : l.length ≤ 9223372036854775807) (h0 : 0 ≤ m) (h : m ≤ 1048576) : CallA Try.prog 74 [.sc (.sl 0 0 l.length), .sc (.int .i64 m)] [some ⟨l.map PieceD.cs, 2, 169, false, true⟩] (.sc (.int .i64 (szGo m (szLPiece l)))) [some ⟨l.map PieceD.cs, 2, 169, false, true⟩] := by
  obtain ⟨R, hR⟩ : ∃ R, R = szGo m (szLPiece l) := ⟨_, rfl⟩
  rw [← hR]
  simp only [szGo, szLPiece] at hR
  refine callA_of Try.func74 (by kernel_rfl) rfl fun E hE => run_den 400 ?_
  simp (disch := omega) only [Try.ntmps74, Try.results74, go_sem, Nat.reduceEqDiff, Nat.reduceAdd, Nat.reduceSub, Int.reduceAdd, Int.reduceSub, Int.reduceToNat]
  split <;> rename_i h1 <;> (try simp only [beq_true, beq_false, Bool.not_eq_true', Bool.not_eq_false'] at h1) <;> simp (disch := omega) only [go_sem, Nat.reduceEqDiff, Nat.reduceAdd, Nat.reduceSub, Int.reduceAdd, Int.reduceSub, Int.reduceToNat, h1] <;> (try simp only [decide_eq_true_eq, decide_eq_false_iff_not, beq_iff_eq, beq_eq_false_iff_ne, bne_iff_ne, bne_eq_false_iff_eq, ne_eq, Decidable.not_not, Bool.and_eq_true, Bool.and_eq_false_iff, Bool.or_eq_true, Bool.or_eq_false_iff, Int.ofNat_lt, Int.ofNat_le, Bool.not_eq_eq_eq_not, Bool.not_true, Bool.not_false] at h1) <;> try simp (disch := omega) only [go_sem, Nat.reduceEqDiff, Nat.reduceAdd, Nat.reduceSub, Int.reduceAdd, Int.reduceSub, Int.reduceToNat]
  · refine den_fin [some (0, none)] (by (try simp (disch := omega) only [go_sem, Nat.reduceEqDiff, Nat.reduceAdd, Nat.reduceSub, Int.reduceAdd, Int.reduceSub, Int.reduceToNat]) <;> omega) _ (by simp only [go_sem]; rfl) (by rfl) (by rfl) ?_
    simp (disch := omega) only [go_sem, Nat.reduceEqDiff, Nat.reduceAdd, Nat.reduceSub, Int.reduceAdd, Int.reduceSub, Int.reduceToNat]
    omega
  · rw [if_neg (by omega)] at hR
    have hs : R = szGo (m - l.length) ((l.drop 0).map fun y => (y.text.length : Int)) := hR
    refine den_lp 1 hE (fun s (x : Nat × Int) => s.at [4, 6, 7, 8, 9, 10, 11, 12, 13, 14, 15, 16, 17, 18, 19, 20, 21, 22, 23, 24, 25] [(5, .sc (.int .i64 (x.1 : Nat))), (1, .sc (.int .i64 x.2))] (s.hp)) (fun (x : Nat × Int) => x.1 ≤ l.length ∧ 0 ≤ x.2 ∧ x.2 ≤ 1048576 ∧ R = szGo x.2 ((l.drop x.1).map fun y => (y.text.length : Int))) (fun (x : Nat × Int) => l.length - x.1) (0, m - l.length) [some (0, none)] (by (try simp (disch := omega) only [go_sem, Nat.reduceEqDiff, Nat.reduceAdd, Nat.reduceSub, Int.reduceAdd, Int.reduceSub, Int.reduceToNat]) <;> omega) (⟨Nat.zero_le _, by omega, by omega, hs⟩) (weak_mk (by rfl) (by rfl) ?_) fun x hx N hN => ?_
    · try simp (disch := omega) only [go_sem, Nat.reduceEqDiff, Nat.reduceAdd, Nat.reduceSub, Int.reduceAdd, Int.reduceSub, Int.reduceToNat]
    · obtain ⟨k, r⟩ := x
      obtain ⟨hk1, hk2, hk3, hk4⟩ := hx
      dsimp only at hk1 hk2 hk3 hk4
      refine run_den 400 ?_
      try simp (disch := omega) only [go_sem, Nat.reduceEqDiff, Nat.reduceAdd, Nat.reduceSub, Int.reduceAdd, Int.reduceSub, Int.reduceToNat]
      split <;> rename_i h2 <;> (try simp only [beq_true, beq_false, Bool.not_eq_true', Bool.not_eq_false'] at h2) <;> simp (disch := omega) only [go_sem, Nat.reduceEqDiff, Nat.reduceAdd, Nat.reduceSub, Int.reduceAdd, Int.reduceSub, Int.reduceToNat, h2] <;> (try simp only [decide_eq_true_eq, decide_eq_false_iff_not, beq_iff_eq, beq_eq_false_iff_ne, bne_iff_ne, bne_eq_false_iff_eq, ne_eq, Decidable.not_not, Bool.and_eq_true, Bool.and_eq_false_iff, Bool.or_eq_true, Bool.or_eq_false_iff, Int.ofNat_lt, Int.ofNat_le, Bool.not_eq_eq_eq_not, Bool.not_true, Bool.not_false] at h2) <;> try simp (disch := omega) only [go_sem, Nat.reduceEqDiff, Nat.reduceAdd, Nat.reduceSub, Int.reduceAdd, Int.reduceSub, Int.reduceToNat]
      · rw [szGo_step h2] at hk4
        have hwf : l[k].wf := hw _ (List.getElem_mem h2)
        have hlx : l[k].text.length ≤ 9223372036854775807 := (fun h => h.2) hwf
        refine den_call (by (try simp (disch := omega) only [go_sem, Nat.reduceEqDiff, Nat.reduceAdd, Nat.reduceSub, Int.reduceAdd, Int.reduceSub, Int.reduceToNat]) <;> omega) (laws_szPiece l[k] r hlx hk2 hk3) [] (by simp only [go_sem]; repeat' first | rfl | constructor) (by rfl) (run_den 400 ?_)
        simp (disch := omega) only [go_sem, Nat.reduceEqDiff, Nat.reduceAdd, Nat.reduceSub, Int.reduceAdd, Int.reduceSub, Int.reduceToNat]
        have eg : szGo r [(l[k].text.length : Int)] = (if r - (l[k].text.length : Int) < 0 then -1 else r - (l[k].text.length : Int)) := rfl
        generalize szGo r [(l[k].text.length : Int)] = g at eg
        by_cases h3 : r - (l[k].text.length : Int) < 0
        · rw [if_pos h3] at eg hk4
          subst eg
          try simp (disch := omega) only [go_sem, Nat.reduceEqDiff, Nat.reduceAdd, Nat.reduceSub, Int.reduceAdd, Int.reduceSub, Int.reduceToNat]
          refine den_fin [some (0, none)] (by (try simp (disch := omega) only [go_sem, Nat.reduceEqDiff, Nat.reduceAdd, Nat.reduceSub, Int.reduceAdd, Int.reduceSub, Int.reduceToNat]) <;> omega) _ (by simp only [go_sem]; rfl) (by rfl) (by rfl) ?_
          simp (disch := omega) only [go_sem, Nat.reduceEqDiff, Nat.reduceAdd, Nat.reduceSub, Int.reduceAdd, Int.reduceSub, Int.reduceToNat]
          omega
        · rw [if_neg h3] at eg hk4
          subst eg
          try simp (disch := omega) only [go_sem, Nat.reduceEqDiff, Nat.reduceAdd, Nat.reduceSub, Int.reduceAdd, Int.reduceSub, Int.reduceToNat]
          refine ⟨by (try simp (disch := omega) only [go_sem, Nat.reduceEqDiff, Nat.reduceAdd, Nat.reduceSub, Int.reduceAdd, Int.reduceSub, Int.reduceToNat]) <;> omega, hN _ (k + 1, r - (l[k].text.length : Int)) [some (0, none)] (by (try dsimp only); exact ⟨by omega, by omega, by omega, hk4⟩) (by (try dsimp only); omega) (weak_mk (by rfl) (by rfl) ?_)⟩
          try simp (disch := omega) only [go_sem, Nat.reduceEqDiff, Nat.reduceAdd, Nat.reduceSub, Int.reduceAdd, Int.reduceSub, Int.reduceToNat]
      · refine den_fin [some (0, none)] (by (try simp (disch := omega) only [go_sem, Nat.reduceEqDiff, Nat.reduceAdd, Nat.reduceSub, Int.reduceAdd, Int.reduceSub, Int.reduceToNat]) <;> omega) _ (by simp only [go_sem]; rfl) (by rfl) (by rfl) ?_
        simp (disch := omega) only [go_sem, Nat.reduceEqDiff, Nat.reduceAdd, Nat.reduceSub, Int.reduceAdd, Int.reduceSub, Int.reduceToNat]
        rw [List.drop_eq_nil_of_le (by omega)] at hk4
        exact hk4.symm
end
section
open Go.ChangeShapes Go.WideShapes Go.ChangeAt Go.RowKit
set_option linter.unusedVariables false

structure PiecesD where
  read : Int
  ready : List UInt8
  list : List PieceD
deriving DecidableEq, Inhabited
/-- The cells, the slices being objects o, o+1 and so on. -/
def PiecesD.cs (x : PiecesD) (o : Nat) : List Sc := [.int .i64 x.read, .st x.ready, .sl (o + 0) 0 x.list.length]
def PiecesD.hp (x : PiecesD) (own : Bool) : Hp := [some ⟨x.list.map PieceD.cs, 2, 170, own, true⟩]
/-- As they come in. -/
def PiecesD.hpL (x : PiecesD) : Hp := [some ⟨x.list.map PieceD.cs, 2, 169, false, true⟩]
def PiecesD.wf (x : PiecesD) : Prop := I64 x.read ∧ x.ready.length ≤ maxLen ∧ (∀ y ∈ x.list, PieceD.wf y) ∧ x.list.length ≤ maxLen
def PiecesD.ls : List L1 := [.one .int, .one .str, .sl [.int, .str]]
theorem PiecesD.conv {w : World} {cs : List Value} (h : See1s w PiecesD.ls cs) : ∃ (x : PiecesD) (β : Be), β.length = 1 ∧ x.wf ∧ (∀ β1 β2 : Be, L2 (ScR (β1 ++ (β ++ β2))) (x.cs β1.length) cs) ∧ (∀ β0 : Be, RoL β0 w β x.hpL) := by
  obtain ⟨_, _, e, ⟨v0, rfl, wv0⟩, h⟩ := h; subst e
  obtain ⟨_, _, e, ⟨v1, rfl, wv1⟩, h⟩ := h; subst e
  obtain ⟨_, _, e, s2h, h⟩ := h; subst e
  obtain rfl := h
  obtain ⟨s2, ps2, s2i, s2l, s2w⟩ := see_slx PieceD.cs [.int, .str] PieceD.wf PieceD.flat (fun _ h => PieceD.conv h) s2h
  refine ⟨⟨v0, v1.data.toList, s2⟩, [ps2], rfl, ⟨wv0, wv1, s2w, s2l⟩, fun β1 β2 => ?_, fun β0 => ?_⟩
  · exact ⟨rfl, ⟨rfl, ⟨s2i.val _ _ (by simp), trivial⟩⟩⟩
  · exact ⟨⟨rfl, s2i.ob _ _, flatL_map PieceD.flat _⟩, trivial⟩

structure KnownD where
  keys : List Int
  tags : List TagD
deriving DecidableEq, Inhabited
/-- The cells, the slices being objects o, o+1 and so on. -/
def KnownD.cs (x : KnownD) (o : Nat) : List Sc := [.sl (o + 0) 0 x.keys.length, .sl (o + 1) 0 x.tags.length]
def KnownD.hp (x : KnownD) (own : Bool) : Hp := [some ⟨x.keys.map intC, 1, 3, own, true⟩, some ⟨x.tags.map TagD.cs, 5, 89, own, true⟩]
/-- As they come in. -/
def KnownD.hpL (x : KnownD) : Hp := [some ⟨x.keys.map intC, 1, 3, false, true⟩, some ⟨x.tags.map TagD.cs, 5, 112, false, true⟩]
def KnownD.wf (x : KnownD) : Prop := (∀ y ∈ x.keys, I64 y) ∧ (∀ y ∈ x.tags, TagD.wf y) ∧ x.keys.length ≤ maxLen ∧ x.tags.length ≤ maxLen
def KnownD.ls : List L1 := [.sl [.int], .sl [.int, .int, .int, .int, .int]]
theorem KnownD.conv {w : World} {cs : List Value} (h : See1s w KnownD.ls cs) : ∃ (x : KnownD) (β : Be), β.length = 2 ∧ x.wf ∧ (∀ β1 β2 : Be, L2 (ScR (β1 ++ (β ++ β2))) (x.cs β1.length) cs) ∧ (∀ β0 : Be, RoL β0 w β x.hpL) := by
  obtain ⟨_, _, e, s0h, h⟩ := h; subst e
  obtain ⟨_, _, e, s1h, h⟩ := h; subst e
  obtain rfl := h
  obtain ⟨s0, ps0, s0i, s0l, s0w⟩ := see_slx intC [.int] I64 (fun _ => rfl) (fun _ h => intC_conv h) s0h
  obtain ⟨s1, ps1, s1i, s1l, s1w⟩ := see_slx TagD.cs [.int, .int, .int, .int, .int] TagD.wf TagD.flat (fun _ h => TagD.conv h) s1h
  refine ⟨⟨s0, s1⟩, [ps0, ps1], rfl, ⟨s0w, s1w, s0l, s1l⟩, fun β1 β2 => ?_, fun β0 => ?_⟩
  · exact ⟨s0i.val _ _ (by simp), ⟨s1i.val _ _ (by simp), trivial⟩⟩
  · exact ⟨⟨rfl, s0i.ob _ _, flatL_map (fun _ => rfl) _⟩, ⟨⟨rfl, s1i.ob _ _, flatL_map TagD.flat _⟩, trivial⟩⟩

structure EndD where
  side : Int
  state : Int
  key : Int
  peer : Int
  policy : PolicyD
  own : List AddrD
  far : List AddrD
  subs : List SubD
  halfs : List HalfD
  bucket : BucketD
  out : OutD
  inp : PiecesD
  done : List Int
  over : List Int
  draw : Int
  now : Int
  pick : Int
deriving DecidableEq, Inhabited
/-- The cells, the slices being objects o, o+1 and so on. -/
def EndD.cs (x : EndD) (o : Nat) : List Sc := [.int .i64 x.side, .int .i64 x.state, .int .i64 x.key, .int .i64 x.peer, .int .i64 x.policy.kind, .int .i64 x.policy.many, .sl (o + 0) 0 x.own.length, .sl (o + 1) 0 x.far.length, .sl (o + 2) 0 x.subs.length, .sl (o + 3) 0 x.halfs.length, .int .i64 x.bucket.rate, .int .i64 x.bucket.burst, .int .i64 x.bucket.cur, .st x.out.text, .int .i64 x.out.base, .int .i64 x.out.sent, .int .i64 x.out.room, .int .i64 x.inp.read, .st x.inp.ready, .sl (o + 4) 0 x.inp.list.length, .sl (o + 5) 0 x.done.length, .sl (o + 6) 0 x.over.length, .int .i64 x.draw, .int .i64 x.now, .int .i64 x.pick]
def EndD.hp (x : EndD) (own : Bool) : Hp := [some ⟨x.own.map AddrD.cs, 4, 145, own, true⟩, some ⟨x.far.map AddrD.cs, 4, 145, own, true⟩, some ⟨x.subs.map SubD.cs, 10, 87, own, true⟩, some ⟨x.halfs.map HalfD.cs, 8, 153, own, true⟩, some ⟨x.inp.list.map PieceD.cs, 2, 170, own, true⟩, some ⟨x.done.map intC, 1, 3, own, true⟩, some ⟨x.over.map intC, 1, 3, own, true⟩]
/-- As they come in. -/
def EndD.hpL (x : EndD) : Hp := [some ⟨x.own.map AddrD.cs, 4, 147, false, true⟩, some ⟨x.far.map AddrD.cs, 4, 147, false, true⟩, some ⟨x.subs.map SubD.cs, 10, 151, false, true⟩, some ⟨x.halfs.map HalfD.cs, 8, 156, false, true⟩, some ⟨x.inp.list.map PieceD.cs, 2, 169, false, true⟩, some ⟨x.done.map intC, 1, 3, false, true⟩, some ⟨x.over.map intC, 1, 3, false, true⟩]
def EndD.wf (x : EndD) : Prop := I64 x.side ∧ I64 x.state ∧ I64 x.key ∧ I64 x.peer ∧ I64 x.policy.kind ∧ I64 x.policy.many ∧ I64 x.bucket.rate ∧ I64 x.bucket.burst ∧ I64 x.bucket.cur ∧ x.out.text.length ≤ maxLen ∧ I64 x.out.base ∧ I64 x.out.sent ∧ I64 x.out.room ∧ I64 x.inp.read ∧ x.inp.ready.length ≤ maxLen ∧ I64 x.draw ∧ I64 x.now ∧ I64 x.pick ∧ (∀ y ∈ x.own, AddrD.wf y) ∧ (∀ y ∈ x.far, AddrD.wf y) ∧ (∀ y ∈ x.subs, SubD.wf y) ∧ (∀ y ∈ x.halfs, HalfD.wf y) ∧ (∀ y ∈ x.inp.list, PieceD.wf y) ∧ (∀ y ∈ x.done, I64 y) ∧ (∀ y ∈ x.over, I64 y) ∧ x.own.length ≤ maxLen ∧ x.far.length ≤ maxLen ∧ x.subs.length ≤ maxLen ∧ x.halfs.length ≤ maxLen ∧ x.inp.list.length ≤ maxLen ∧ x.done.length ≤ maxLen ∧ x.over.length ≤ maxLen
theorem EndD.wf_inp {x : EndD} (h : x.wf) : x.inp.wf := by
  obtain ⟨_, _, _, _, _, _, _, _, _, _, _, _, _, h13, h14, _, _, _, _, _, _, _, h22, _, _, _, _, _, _, h29, _, _⟩ := h
  exact ⟨h13, h14, h22, h29⟩
def EndD.ls : List L1 := [.one .int, .one .int, .one .int, .one .int, .one .int, .one .int, .sl [.int, .int, .bool, .bool], .sl [.int, .int, .bool, .bool], .sl [.int, .int, .int, .int, .bool, .int, .int, .int, .int, .int], .sl [.int, .int, .int, .int, .int, .int, .int, .int], .one .int, .one .int, .one .int, .one .str, .one .int, .one .int, .one .int, .one .int, .one .str, .sl [.int, .str], .sl [.int], .sl [.int], .one .int, .one .int, .one .int]
theorem EndD.conv {w : World} {cs : List Value} (h : See1s w EndD.ls cs) : ∃ (x : EndD) (β : Be), β.length = 7 ∧ x.wf ∧ (∀ β1 β2 : Be, L2 (ScR (β1 ++ (β ++ β2))) (x.cs β1.length) cs) ∧ (∀ β0 : Be, RoL β0 w β x.hpL) := by
  obtain ⟨_, _, e, ⟨v0, rfl, wv0⟩, h⟩ := h; subst e
  obtain ⟨_, _, e, ⟨v1, rfl, wv1⟩, h⟩ := h; subst e
  obtain ⟨_, _, e, ⟨v2, rfl, wv2⟩, h⟩ := h; subst e
  obtain ⟨_, _, e, ⟨v3, rfl, wv3⟩, h⟩ := h; subst e
  obtain ⟨_, _, e, ⟨v4, rfl, wv4⟩, h⟩ := h; subst e
  obtain ⟨_, _, e, ⟨v5, rfl, wv5⟩, h⟩ := h; subst e
  obtain ⟨_, _, e, s6h, h⟩ := h; subst e
  obtain ⟨_, _, e, s7h, h⟩ := h; subst e
  obtain ⟨_, _, e, s8h, h⟩ := h; subst e
  obtain ⟨_, _, e, s9h, h⟩ := h; subst e
  obtain ⟨_, _, e, ⟨v10, rfl, wv10⟩, h⟩ := h; subst e
  obtain ⟨_, _, e, ⟨v11, rfl, wv11⟩, h⟩ := h; subst e
  obtain ⟨_, _, e, ⟨v12, rfl, wv12⟩, h⟩ := h; subst e
  obtain ⟨_, _, e, ⟨v13, rfl, wv13⟩, h⟩ := h; subst e
  obtain ⟨_, _, e, ⟨v14, rfl, wv14⟩, h⟩ := h; subst e
  obtain ⟨_, _, e, ⟨v15, rfl, wv15⟩, h⟩ := h; subst e
  obtain ⟨_, _, e, ⟨v16, rfl, wv16⟩, h⟩ := h; subst e
  obtain ⟨_, _, e, ⟨v17, rfl, wv17⟩, h⟩ := h; subst e
  obtain ⟨_, _, e, ⟨v18, rfl, wv18⟩, h⟩ := h; subst e
  obtain ⟨_, _, e, s19h, h⟩ := h; subst e
  obtain ⟨_, _, e, s20h, h⟩ := h; subst e
  obtain ⟨_, _, e, s21h, h⟩ := h; subst e
  obtain ⟨_, _, e, ⟨v22, rfl, wv22⟩, h⟩ := h; subst e
  obtain ⟨_, _, e, ⟨v23, rfl, wv23⟩, h⟩ := h; subst e
  obtain ⟨_, _, e, ⟨v24, rfl, wv24⟩, h⟩ := h; subst e
  obtain rfl := h
  obtain ⟨s6, ps6, s6i, s6l, s6w⟩ := see_slx AddrD.cs [.int, .int, .bool, .bool] AddrD.wf AddrD.flat (fun _ h => AddrD.conv h) s6h
  obtain ⟨s7, ps7, s7i, s7l, s7w⟩ := see_slx AddrD.cs [.int, .int, .bool, .bool] AddrD.wf AddrD.flat (fun _ h => AddrD.conv h) s7h
  obtain ⟨s8, ps8, s8i, s8l, s8w⟩ := see_slx SubD.cs [.int, .int, .int, .int, .bool, .int, .int, .int, .int, .int] SubD.wf SubD.flat (fun _ h => SubD.conv h) s8h
  obtain ⟨s9, ps9, s9i, s9l, s9w⟩ := see_slx HalfD.cs [.int, .int, .int, .int, .int, .int, .int, .int] HalfD.wf HalfD.flat (fun _ h => HalfD.conv h) s9h
  obtain ⟨s19, ps19, s19i, s19l, s19w⟩ := see_slx PieceD.cs [.int, .str] PieceD.wf PieceD.flat (fun _ h => PieceD.conv h) s19h
  obtain ⟨s20, ps20, s20i, s20l, s20w⟩ := see_slx intC [.int] I64 (fun _ => rfl) (fun _ h => intC_conv h) s20h
  obtain ⟨s21, ps21, s21i, s21l, s21w⟩ := see_slx intC [.int] I64 (fun _ => rfl) (fun _ h => intC_conv h) s21h
  refine ⟨⟨v0, v1, v2, v3, ⟨v4, v5⟩, s6, s7, s8, s9, ⟨v10, v11, v12⟩, ⟨v13.data.toList, v14, v15, v16⟩, ⟨v17, v18.data.toList, s19⟩, s20, s21, v22, v23, v24⟩, [ps6, ps7, ps8, ps9, ps19, ps20, ps21], rfl, ⟨wv0, wv1, wv2, wv3, wv4, wv5, wv10, wv11, wv12, wv13, wv14, wv15, wv16, wv17, wv18, wv22, wv23, wv24, s6w, s7w, s8w, s9w, s19w, s20w, s21w, s6l, s7l, s8l, s9l, s19l, s20l, s21l⟩, fun β1 β2 => ?_, fun β0 => ?_⟩
  · exact ⟨rfl, ⟨rfl, ⟨rfl, ⟨rfl, ⟨rfl, ⟨rfl, ⟨s6i.val _ _ (by simp), ⟨s7i.val _ _ (by simp), ⟨s8i.val _ _ (by simp), ⟨s9i.val _ _ (by simp), ⟨rfl, ⟨rfl, ⟨rfl, ⟨rfl, ⟨rfl, ⟨rfl, ⟨rfl, ⟨rfl, ⟨rfl, ⟨s19i.val _ _ (by simp), ⟨s20i.val _ _ (by simp), ⟨s21i.val _ _ (by simp), ⟨rfl, ⟨rfl, ⟨rfl, trivial⟩⟩⟩⟩⟩⟩⟩⟩⟩⟩⟩⟩⟩⟩⟩⟩⟩⟩⟩⟩⟩⟩⟩⟩⟩
  · exact ⟨⟨rfl, s6i.ob _ _, flatL_map AddrD.flat _⟩, ⟨⟨rfl, s7i.ob _ _, flatL_map AddrD.flat _⟩, ⟨⟨rfl, s8i.ob _ _, flatL_map SubD.flat _⟩, ⟨⟨rfl, s9i.ob _ _, flatL_map HalfD.flat _⟩, ⟨⟨rfl, s19i.ob _ _, flatL_map PieceD.flat _⟩, ⟨⟨rfl, s20i.ob _ _, flatL_map (fun _ => rfl) _⟩, ⟨⟨rfl, s21i.ob _ _, flatL_map (fun _ => rfl) _⟩, trivial⟩⟩⟩⟩⟩⟩⟩

attribute [go_sem] PiecesD.cs PiecesD.hp PiecesD.hpL KnownD.cs KnownD.hp KnownD.hpL EndD.cs EndD.hp EndD.hpL
end
section
open Go.ChangeShapes Go.WideShapes Go.ChangeAt Go.RowKit
set_option linter.unusedVariables false

structure WorldD where
  a : EndD
  b : EndD
  bag : List LetterD
  past : List LetterD
  wroteA : List UInt8
  wroteB : List UInt8
  readA : List UInt8
  readB : List UInt8
  known : KnownD
  nums : List Int
  answersA : List Int
  answersB : List Int
deriving DecidableEq, Inhabited
/-- The cells, the slices being objects o, o+1 and so on. -/
def WorldD.cs (x : WorldD) (o : Nat) : List Sc := [.int .i64 x.a.side, .int .i64 x.a.state, .int .i64 x.a.key, .int .i64 x.a.peer, .int .i64 x.a.policy.kind, .int .i64 x.a.policy.many, .sl (o + 0) 0 x.a.own.length, .sl (o + 1) 0 x.a.far.length, .sl (o + 2) 0 x.a.subs.length, .sl (o + 3) 0 x.a.halfs.length, .int .i64 x.a.bucket.rate, .int .i64 x.a.bucket.burst, .int .i64 x.a.bucket.cur, .st x.a.out.text, .int .i64 x.a.out.base, .int .i64 x.a.out.sent, .int .i64 x.a.out.room, .int .i64 x.a.inp.read, .st x.a.inp.ready, .sl (o + 4) 0 x.a.inp.list.length, .sl (o + 5) 0 x.a.done.length, .sl (o + 6) 0 x.a.over.length, .int .i64 x.a.draw, .int .i64 x.a.now, .int .i64 x.a.pick, .int .i64 x.b.side, .int .i64 x.b.state, .int .i64 x.b.key, .int .i64 x.b.peer, .int .i64 x.b.policy.kind, .int .i64 x.b.policy.many, .sl (o + 7) 0 x.b.own.length, .sl (o + 8) 0 x.b.far.length, .sl (o + 9) 0 x.b.subs.length, .sl (o + 10) 0 x.b.halfs.length, .int .i64 x.b.bucket.rate, .int .i64 x.b.bucket.burst, .int .i64 x.b.bucket.cur, .st x.b.out.text, .int .i64 x.b.out.base, .int .i64 x.b.out.sent, .int .i64 x.b.out.room, .int .i64 x.b.inp.read, .st x.b.inp.ready, .sl (o + 11) 0 x.b.inp.list.length, .sl (o + 12) 0 x.b.done.length, .sl (o + 13) 0 x.b.over.length, .int .i64 x.b.draw, .int .i64 x.b.now, .int .i64 x.b.pick, .sl (o + 14) 0 x.bag.length, .sl (o + 15) 0 x.past.length, .st x.wroteA, .st x.wroteB, .st x.readA, .st x.readB, .sl (o + 16) 0 x.known.keys.length, .sl (o + 17) 0 x.known.tags.length, .sl (o + 18) 0 x.nums.length, .sl (o + 19) 0 x.answersA.length, .sl (o + 20) 0 x.answersB.length]
def WorldD.hp (x : WorldD) (own : Bool) : Hp := [some ⟨x.a.own.map AddrD.cs, 4, 145, own, true⟩, some ⟨x.a.far.map AddrD.cs, 4, 145, own, true⟩, some ⟨x.a.subs.map SubD.cs, 10, 87, own, true⟩, some ⟨x.a.halfs.map HalfD.cs, 8, 153, own, true⟩, some ⟨x.a.inp.list.map PieceD.cs, 2, 170, own, true⟩, some ⟨x.a.done.map intC, 1, 3, own, true⟩, some ⟨x.a.over.map intC, 1, 3, own, true⟩, some ⟨x.b.own.map AddrD.cs, 4, 145, own, true⟩, some ⟨x.b.far.map AddrD.cs, 4, 145, own, true⟩, some ⟨x.b.subs.map SubD.cs, 10, 87, own, true⟩, some ⟨x.b.halfs.map HalfD.cs, 8, 153, own, true⟩, some ⟨x.b.inp.list.map PieceD.cs, 2, 170, own, true⟩, some ⟨x.b.done.map intC, 1, 3, own, true⟩, some ⟨x.b.over.map intC, 1, 3, own, true⟩, some ⟨x.bag.map LetterD.cs, 19, 91, own, true⟩, some ⟨x.past.map LetterD.cs, 19, 91, own, true⟩, some ⟨x.known.keys.map intC, 1, 3, own, true⟩, some ⟨x.known.tags.map TagD.cs, 5, 89, own, true⟩, some ⟨x.nums.map intC, 1, 3, own, true⟩, some ⟨x.answersA.map intC, 1, 3, own, true⟩, some ⟨x.answersB.map intC, 1, 3, own, true⟩]
/-- As they come in. -/
def WorldD.hpL (x : WorldD) : Hp := [some ⟨x.a.own.map AddrD.cs, 4, 147, false, true⟩, some ⟨x.a.far.map AddrD.cs, 4, 147, false, true⟩, some ⟨x.a.subs.map SubD.cs, 10, 151, false, true⟩, some ⟨x.a.halfs.map HalfD.cs, 8, 156, false, true⟩, some ⟨x.a.inp.list.map PieceD.cs, 2, 169, false, true⟩, some ⟨x.a.done.map intC, 1, 3, false, true⟩, some ⟨x.a.over.map intC, 1, 3, false, true⟩, some ⟨x.b.own.map AddrD.cs, 4, 147, false, true⟩, some ⟨x.b.far.map AddrD.cs, 4, 147, false, true⟩, some ⟨x.b.subs.map SubD.cs, 10, 151, false, true⟩, some ⟨x.b.halfs.map HalfD.cs, 8, 156, false, true⟩, some ⟨x.b.inp.list.map PieceD.cs, 2, 169, false, true⟩, some ⟨x.b.done.map intC, 1, 3, false, true⟩, some ⟨x.b.over.map intC, 1, 3, false, true⟩, some ⟨x.bag.map LetterD.cs, 19, 114, false, true⟩, some ⟨x.past.map LetterD.cs, 19, 114, false, true⟩, some ⟨x.known.keys.map intC, 1, 3, false, true⟩, some ⟨x.known.tags.map TagD.cs, 5, 112, false, true⟩, some ⟨x.nums.map intC, 1, 3, false, true⟩, some ⟨x.answersA.map intC, 1, 3, false, true⟩, some ⟨x.answersB.map intC, 1, 3, false, true⟩]
def WorldD.wf (x : WorldD) : Prop := I64 x.a.side ∧ I64 x.a.state ∧ I64 x.a.key ∧ I64 x.a.peer ∧ I64 x.a.policy.kind ∧ I64 x.a.policy.many ∧ I64 x.a.bucket.rate ∧ I64 x.a.bucket.burst ∧ I64 x.a.bucket.cur ∧ x.a.out.text.length ≤ maxLen ∧ I64 x.a.out.base ∧ I64 x.a.out.sent ∧ I64 x.a.out.room ∧ I64 x.a.inp.read ∧ x.a.inp.ready.length ≤ maxLen ∧ I64 x.a.draw ∧ I64 x.a.now ∧ I64 x.a.pick ∧ I64 x.b.side ∧ I64 x.b.state ∧ I64 x.b.key ∧ I64 x.b.peer ∧ I64 x.b.policy.kind ∧ I64 x.b.policy.many ∧ I64 x.b.bucket.rate ∧ I64 x.b.bucket.burst ∧ I64 x.b.bucket.cur ∧ x.b.out.text.length ≤ maxLen ∧ I64 x.b.out.base ∧ I64 x.b.out.sent ∧ I64 x.b.out.room ∧ I64 x.b.inp.read ∧ x.b.inp.ready.length ≤ maxLen ∧ I64 x.b.draw ∧ I64 x.b.now ∧ I64 x.b.pick ∧ x.wroteA.length ≤ maxLen ∧ x.wroteB.length ≤ maxLen ∧ x.readA.length ≤ maxLen ∧ x.readB.length ≤ maxLen ∧ (∀ y ∈ x.a.own, AddrD.wf y) ∧ (∀ y ∈ x.a.far, AddrD.wf y) ∧ (∀ y ∈ x.a.subs, SubD.wf y) ∧ (∀ y ∈ x.a.halfs, HalfD.wf y) ∧ (∀ y ∈ x.a.inp.list, PieceD.wf y) ∧ (∀ y ∈ x.a.done, I64 y) ∧ (∀ y ∈ x.a.over, I64 y) ∧ (∀ y ∈ x.b.own, AddrD.wf y) ∧ (∀ y ∈ x.b.far, AddrD.wf y) ∧ (∀ y ∈ x.b.subs, SubD.wf y) ∧ (∀ y ∈ x.b.halfs, HalfD.wf y) ∧ (∀ y ∈ x.b.inp.list, PieceD.wf y) ∧ (∀ y ∈ x.b.done, I64 y) ∧ (∀ y ∈ x.b.over, I64 y) ∧ (∀ y ∈ x.bag, LetterD.wf y) ∧ (∀ y ∈ x.past, LetterD.wf y) ∧ (∀ y ∈ x.known.keys, I64 y) ∧ (∀ y ∈ x.known.tags, TagD.wf y) ∧ (∀ y ∈ x.nums, I64 y) ∧ (∀ y ∈ x.answersA, I64 y) ∧ (∀ y ∈ x.answersB, I64 y) ∧ x.a.own.length ≤ maxLen ∧ x.a.far.length ≤ maxLen ∧ x.a.subs.length ≤ maxLen ∧ x.a.halfs.length ≤ maxLen ∧ x.a.inp.list.length ≤ maxLen ∧ x.a.done.length ≤ maxLen ∧ x.a.over.length ≤ maxLen ∧ x.b.own.length ≤ maxLen ∧ x.b.far.length ≤ maxLen ∧ x.b.subs.length ≤ maxLen ∧ x.b.halfs.length ≤ maxLen ∧ x.b.inp.list.length ≤ maxLen ∧ x.b.done.length ≤ maxLen ∧ x.b.over.length ≤ maxLen ∧ x.bag.length ≤ maxLen ∧ x.past.length ≤ maxLen ∧ x.known.keys.length ≤ maxLen ∧ x.known.tags.length ≤ maxLen ∧ x.nums.length ≤ maxLen ∧ x.answersA.length ≤ maxLen ∧ x.answersB.length ≤ maxLen
theorem WorldD.wf_a {x : WorldD} (h : x.wf) : x.a.wf := by
  obtain ⟨h0, h1, h2, h3, h4, h5, h6, h7, h8, h9, h10, h11, h12, h13, h14, h15, h16, h17, _, _, _, _, _, _, _, _, _, _, _, _, _, _, _, _, _, _, _, _, _, _, h40, h41, h42, h43, h44, h45, h46, _, _, _, _, _, _, _, _, _, _, _, _, _, _, h61, h62, h63, h64, h65, h66, h67, _, _, _, _, _, _, _, _, _, _, _, _, _, _⟩ := h
  exact ⟨h0, h1, h2, h3, h4, h5, h6, h7, h8, h9, h10, h11, h12, h13, h14, h15, h16, h17, h40, h41, h42, h43, h44, h45, h46, h61, h62, h63, h64, h65, h66, h67⟩
theorem WorldD.wf_b {x : WorldD} (h : x.wf) : x.b.wf := by
  obtain ⟨_, _, _, _, _, _, _, _, _, _, _, _, _, _, _, _, _, _, h18, h19, h20, h21, h22, h23, h24, h25, h26, h27, h28, h29, h30, h31, h32, h33, h34, h35, _, _, _, _, _, _, _, _, _, _, _, h47, h48, h49, h50, h51, h52, h53, _, _, _, _, _, _, _, _, _, _, _, _, _, _, h68, h69, h70, h71, h72, h73, h74, _, _, _, _, _, _, _⟩ := h
  exact ⟨h18, h19, h20, h21, h22, h23, h24, h25, h26, h27, h28, h29, h30, h31, h32, h33, h34, h35, h47, h48, h49, h50, h51, h52, h53, h68, h69, h70, h71, h72, h73, h74⟩
theorem WorldD.wf_known {x : WorldD} (h : x.wf) : x.known.wf := by
  obtain ⟨_, _, _, _, _, _, _, _, _, _, _, _, _, _, _, _, _, _, _, _, _, _, _, _, _, _, _, _, _, _, _, _, _, _, _, _, _, _, _, _, _, _, _, _, _, _, _, _, _, _, _, _, _, _, _, _, h56, h57, _, _, _, _, _, _, _, _, _, _, _, _, _, _, _, _, _, _, _, h77, h78, _, _, _⟩ := h
  exact ⟨h56, h57, h77, h78⟩
def WorldD.ls : List L1 := [.one .int, .one .int, .one .int, .one .int, .one .int, .one .int, .sl [.int, .int, .bool, .bool], .sl [.int, .int, .bool, .bool], .sl [.int, .int, .int, .int, .bool, .int, .int, .int, .int, .int], .sl [.int, .int, .int, .int, .int, .int, .int, .int], .one .int, .one .int, .one .int, .one .str, .one .int, .one .int, .one .int, .one .int, .one .str, .sl [.int, .str], .sl [.int], .sl [.int], .one .int, .one .int, .one .int, .one .int, .one .int, .one .int, .one .int, .one .int, .one .int, .sl [.int, .int, .bool, .bool], .sl [.int, .int, .bool, .bool], .sl [.int, .int, .int, .int, .bool, .int, .int, .int, .int, .int], .sl [.int, .int, .int, .int, .int, .int, .int, .int], .one .int, .one .int, .one .int, .one .str, .one .int, .one .int, .one .int, .one .int, .one .str, .sl [.int, .str], .sl [.int], .sl [.int], .one .int, .one .int, .one .int, .sl [.int, .int, .int, .int, .int, .int, .int, .int, .int, .int, .int, .int, .int, .int, .int, .int, .bool, .int, .str], .sl [.int, .int, .int, .int, .int, .int, .int, .int, .int, .int, .int, .int, .int, .int, .int, .int, .bool, .int, .str], .one .str, .one .str, .one .str, .one .str, .sl [.int], .sl [.int, .int, .int, .int, .int], .sl [.int], .sl [.int], .sl [.int]]
theorem WorldD.conv {w : World} {cs : List Value} (h : See1s w WorldD.ls cs) : ∃ (x : WorldD) (β : Be), β.length = 21 ∧ x.wf ∧ (∀ β1 β2 : Be, L2 (ScR (β1 ++ (β ++ β2))) (x.cs β1.length) cs) ∧ (∀ β0 : Be, RoL β0 w β x.hpL) := by
  obtain ⟨_, _, e, ⟨v0, rfl, wv0⟩, h⟩ := h; subst e
  obtain ⟨_, _, e, ⟨v1, rfl, wv1⟩, h⟩ := h; subst e
  obtain ⟨_, _, e, ⟨v2, rfl, wv2⟩, h⟩ := h; subst e
  obtain ⟨_, _, e, ⟨v3, rfl, wv3⟩, h⟩ := h; subst e
  obtain ⟨_, _, e, ⟨v4, rfl, wv4⟩, h⟩ := h; subst e
  obtain ⟨_, _, e, ⟨v5, rfl, wv5⟩, h⟩ := h; subst e
  obtain ⟨_, _, e, s6h, h⟩ := h; subst e
  obtain ⟨_, _, e, s7h, h⟩ := h; subst e
  obtain ⟨_, _, e, s8h, h⟩ := h; subst e
  obtain ⟨_, _, e, s9h, h⟩ := h; subst e
  obtain ⟨_, _, e, ⟨v10, rfl, wv10⟩, h⟩ := h; subst e
  obtain ⟨_, _, e, ⟨v11, rfl, wv11⟩, h⟩ := h; subst e
  obtain ⟨_, _, e, ⟨v12, rfl, wv12⟩, h⟩ := h; subst e
  obtain ⟨_, _, e, ⟨v13, rfl, wv13⟩, h⟩ := h; subst e
  obtain ⟨_, _, e, ⟨v14, rfl, wv14⟩, h⟩ := h; subst e
  obtain ⟨_, _, e, ⟨v15, rfl, wv15⟩, h⟩ := h; subst e
  obtain ⟨_, _, e, ⟨v16, rfl, wv16⟩, h⟩ := h; subst e
  obtain ⟨_, _, e, ⟨v17, rfl, wv17⟩, h⟩ := h; subst e
  obtain ⟨_, _, e, ⟨v18, rfl, wv18⟩, h⟩ := h; subst e
  obtain ⟨_, _, e, s19h, h⟩ := h; subst e
  obtain ⟨_, _, e, s20h, h⟩ := h; subst e
  obtain ⟨_, _, e, s21h, h⟩ := h; subst e
  obtain ⟨_, _, e, ⟨v22, rfl, wv22⟩, h⟩ := h; subst e
  obtain ⟨_, _, e, ⟨v23, rfl, wv23⟩, h⟩ := h; subst e
  obtain ⟨_, _, e, ⟨v24, rfl, wv24⟩, h⟩ := h; subst e
  obtain ⟨_, _, e, ⟨v25, rfl, wv25⟩, h⟩ := h; subst e
  obtain ⟨_, _, e, ⟨v26, rfl, wv26⟩, h⟩ := h; subst e
  obtain ⟨_, _, e, ⟨v27, rfl, wv27⟩, h⟩ := h; subst e
  obtain ⟨_, _, e, ⟨v28, rfl, wv28⟩, h⟩ := h; subst e
  obtain ⟨_, _, e, ⟨v29, rfl, wv29⟩, h⟩ := h; subst e
  obtain ⟨_, _, e, ⟨v30, rfl, wv30⟩, h⟩ := h; subst e
  obtain ⟨_, _, e, s31h, h⟩ := h; subst e
  obtain ⟨_, _, e, s32h, h⟩ := h; subst e
  obtain ⟨_, _, e, s33h, h⟩ := h; subst e
  obtain ⟨_, _, e, s34h, h⟩ := h; subst e
  obtain ⟨_, _, e, ⟨v35, rfl, wv35⟩, h⟩ := h; subst e
  obtain ⟨_, _, e, ⟨v36, rfl, wv36⟩, h⟩ := h; subst e
  obtain ⟨_, _, e, ⟨v37, rfl, wv37⟩, h⟩ := h; subst e
  obtain ⟨_, _, e, ⟨v38, rfl, wv38⟩, h⟩ := h; subst e
  obtain ⟨_, _, e, ⟨v39, rfl, wv39⟩, h⟩ := h; subst e
  obtain ⟨_, _, e, ⟨v40, rfl, wv40⟩, h⟩ := h; subst e
  obtain ⟨_, _, e, ⟨v41, rfl, wv41⟩, h⟩ := h; subst e
  obtain ⟨_, _, e, ⟨v42, rfl, wv42⟩, h⟩ := h; subst e
  obtain ⟨_, _, e, ⟨v43, rfl, wv43⟩, h⟩ := h; subst e
  obtain ⟨_, _, e, s44h, h⟩ := h; subst e
  obtain ⟨_, _, e, s45h, h⟩ := h; subst e
  obtain ⟨_, _, e, s46h, h⟩ := h; subst e
  obtain ⟨_, _, e, ⟨v47, rfl, wv47⟩, h⟩ := h; subst e
  obtain ⟨_, _, e, ⟨v48, rfl, wv48⟩, h⟩ := h; subst e
  obtain ⟨_, _, e, ⟨v49, rfl, wv49⟩, h⟩ := h; subst e
  obtain ⟨_, _, e, s50h, h⟩ := h; subst e
  obtain ⟨_, _, e, s51h, h⟩ := h; subst e
  obtain ⟨_, _, e, ⟨v52, rfl, wv52⟩, h⟩ := h; subst e
  obtain ⟨_, _, e, ⟨v53, rfl, wv53⟩, h⟩ := h; subst e
  obtain ⟨_, _, e, ⟨v54, rfl, wv54⟩, h⟩ := h; subst e
  obtain ⟨_, _, e, ⟨v55, rfl, wv55⟩, h⟩ := h; subst e
  obtain ⟨_, _, e, s56h, h⟩ := h; subst e
  obtain ⟨_, _, e, s57h, h⟩ := h; subst e
  obtain ⟨_, _, e, s58h, h⟩ := h; subst e
  obtain ⟨_, _, e, s59h, h⟩ := h; subst e
  obtain ⟨_, _, e, s60h, h⟩ := h; subst e
  obtain rfl := h
  obtain ⟨s6, ps6, s6i, s6l, s6w⟩ := see_slx AddrD.cs [.int, .int, .bool, .bool] AddrD.wf AddrD.flat (fun _ h => AddrD.conv h) s6h
  obtain ⟨s7, ps7, s7i, s7l, s7w⟩ := see_slx AddrD.cs [.int, .int, .bool, .bool] AddrD.wf AddrD.flat (fun _ h => AddrD.conv h) s7h
  obtain ⟨s8, ps8, s8i, s8l, s8w⟩ := see_slx SubD.cs [.int, .int, .int, .int, .bool, .int, .int, .int, .int, .int] SubD.wf SubD.flat (fun _ h => SubD.conv h) s8h
  obtain ⟨s9, ps9, s9i, s9l, s9w⟩ := see_slx HalfD.cs [.int, .int, .int, .int, .int, .int, .int, .int] HalfD.wf HalfD.flat (fun _ h => HalfD.conv h) s9h
  obtain ⟨s19, ps19, s19i, s19l, s19w⟩ := see_slx PieceD.cs [.int, .str] PieceD.wf PieceD.flat (fun _ h => PieceD.conv h) s19h
  obtain ⟨s20, ps20, s20i, s20l, s20w⟩ := see_slx intC [.int] I64 (fun _ => rfl) (fun _ h => intC_conv h) s20h
  obtain ⟨s21, ps21, s21i, s21l, s21w⟩ := see_slx intC [.int] I64 (fun _ => rfl) (fun _ h => intC_conv h) s21h
  obtain ⟨s31, ps31, s31i, s31l, s31w⟩ := see_slx AddrD.cs [.int, .int, .bool, .bool] AddrD.wf AddrD.flat (fun _ h => AddrD.conv h) s31h
  obtain ⟨s32, ps32, s32i, s32l, s32w⟩ := see_slx AddrD.cs [.int, .int, .bool, .bool] AddrD.wf AddrD.flat (fun _ h => AddrD.conv h) s32h
  obtain ⟨s33, ps33, s33i, s33l, s33w⟩ := see_slx SubD.cs [.int, .int, .int, .int, .bool, .int, .int, .int, .int, .int] SubD.wf SubD.flat (fun _ h => SubD.conv h) s33h
  obtain ⟨s34, ps34, s34i, s34l, s34w⟩ := see_slx HalfD.cs [.int, .int, .int, .int, .int, .int, .int, .int] HalfD.wf HalfD.flat (fun _ h => HalfD.conv h) s34h
  obtain ⟨s44, ps44, s44i, s44l, s44w⟩ := see_slx PieceD.cs [.int, .str] PieceD.wf PieceD.flat (fun _ h => PieceD.conv h) s44h
  obtain ⟨s45, ps45, s45i, s45l, s45w⟩ := see_slx intC [.int] I64 (fun _ => rfl) (fun _ h => intC_conv h) s45h
  obtain ⟨s46, ps46, s46i, s46l, s46w⟩ := see_slx intC [.int] I64 (fun _ => rfl) (fun _ h => intC_conv h) s46h
  obtain ⟨s50, ps50, s50i, s50l, s50w⟩ := see_slx LetterD.cs [.int, .int, .int, .int, .int, .int, .int, .int, .int, .int, .int, .int, .int, .int, .int, .int, .bool, .int, .str] LetterD.wf LetterD.flat (fun _ h => LetterD.conv h) s50h
  obtain ⟨s51, ps51, s51i, s51l, s51w⟩ := see_slx LetterD.cs [.int, .int, .int, .int, .int, .int, .int, .int, .int, .int, .int, .int, .int, .int, .int, .int, .bool, .int, .str] LetterD.wf LetterD.flat (fun _ h => LetterD.conv h) s51h
  obtain ⟨s56, ps56, s56i, s56l, s56w⟩ := see_slx intC [.int] I64 (fun _ => rfl) (fun _ h => intC_conv h) s56h
  obtain ⟨s57, ps57, s57i, s57l, s57w⟩ := see_slx TagD.cs [.int, .int, .int, .int, .int] TagD.wf TagD.flat (fun _ h => TagD.conv h) s57h
  obtain ⟨s58, ps58, s58i, s58l, s58w⟩ := see_slx intC [.int] I64 (fun _ => rfl) (fun _ h => intC_conv h) s58h
  obtain ⟨s59, ps59, s59i, s59l, s59w⟩ := see_slx intC [.int] I64 (fun _ => rfl) (fun _ h => intC_conv h) s59h
  obtain ⟨s60, ps60, s60i, s60l, s60w⟩ := see_slx intC [.int] I64 (fun _ => rfl) (fun _ h => intC_conv h) s60h
  refine ⟨⟨⟨v0, v1, v2, v3, ⟨v4, v5⟩, s6, s7, s8, s9, ⟨v10, v11, v12⟩, ⟨v13.data.toList, v14, v15, v16⟩, ⟨v17, v18.data.toList, s19⟩, s20, s21, v22, v23, v24⟩, ⟨v25, v26, v27, v28, ⟨v29, v30⟩, s31, s32, s33, s34, ⟨v35, v36, v37⟩, ⟨v38.data.toList, v39, v40, v41⟩, ⟨v42, v43.data.toList, s44⟩, s45, s46, v47, v48, v49⟩, s50, s51, v52.data.toList, v53.data.toList, v54.data.toList, v55.data.toList, ⟨s56, s57⟩, s58, s59, s60⟩, [ps6, ps7, ps8, ps9, ps19, ps20, ps21, ps31, ps32, ps33, ps34, ps44, ps45, ps46, ps50, ps51, ps56, ps57, ps58, ps59, ps60], rfl, ⟨wv0, wv1, wv2, wv3, wv4, wv5, wv10, wv11, wv12, wv13, wv14, wv15, wv16, wv17, wv18, wv22, wv23, wv24, wv25, wv26, wv27, wv28, wv29, wv30, wv35, wv36, wv37, wv38, wv39, wv40, wv41, wv42, wv43, wv47, wv48, wv49, wv52, wv53, wv54, wv55, s6w, s7w, s8w, s9w, s19w, s20w, s21w, s31w, s32w, s33w, s34w, s44w, s45w, s46w, s50w, s51w, s56w, s57w, s58w, s59w, s60w, s6l, s7l, s8l, s9l, s19l, s20l, s21l, s31l, s32l, s33l, s34l, s44l, s45l, s46l, s50l, s51l, s56l, s57l, s58l, s59l, s60l⟩, fun β1 β2 => ?_, fun β0 => ?_⟩
  · exact ⟨rfl, ⟨rfl, ⟨rfl, ⟨rfl, ⟨rfl, ⟨rfl, ⟨s6i.val _ _ (by simp), ⟨s7i.val _ _ (by simp), ⟨s8i.val _ _ (by simp), ⟨s9i.val _ _ (by simp), ⟨rfl, ⟨rfl, ⟨rfl, ⟨rfl, ⟨rfl, ⟨rfl, ⟨rfl, ⟨rfl, ⟨rfl, ⟨s19i.val _ _ (by simp), ⟨s20i.val _ _ (by simp), ⟨s21i.val _ _ (by simp), ⟨rfl, ⟨rfl, ⟨rfl, ⟨rfl, ⟨rfl, ⟨rfl, ⟨rfl, ⟨rfl, ⟨rfl, ⟨s31i.val _ _ (by simp), ⟨s32i.val _ _ (by simp), ⟨s33i.val _ _ (by simp), ⟨s34i.val _ _ (by simp), ⟨rfl, ⟨rfl, ⟨rfl, ⟨rfl, ⟨rfl, ⟨rfl, ⟨rfl, ⟨rfl, ⟨rfl, ⟨s44i.val _ _ (by simp), ⟨s45i.val _ _ (by simp), ⟨s46i.val _ _ (by simp), ⟨rfl, ⟨rfl, ⟨rfl, ⟨s50i.val _ _ (by simp), ⟨s51i.val _ _ (by simp), ⟨rfl, ⟨rfl, ⟨rfl, ⟨rfl, ⟨s56i.val _ _ (by simp), ⟨s57i.val _ _ (by simp), ⟨s58i.val _ _ (by simp), ⟨s59i.val _ _ (by simp), ⟨s60i.val _ _ (by simp), trivial⟩⟩⟩⟩⟩⟩⟩⟩⟩⟩⟩⟩⟩⟩⟩⟩⟩⟩⟩⟩⟩⟩⟩⟩⟩⟩⟩⟩⟩⟩⟩⟩⟩⟩⟩⟩⟩⟩⟩⟩⟩⟩⟩⟩⟩⟩⟩⟩⟩⟩⟩⟩⟩⟩⟩⟩⟩⟩⟩⟩⟩
  · exact ⟨⟨rfl, s6i.ob _ _, flatL_map AddrD.flat _⟩, ⟨⟨rfl, s7i.ob _ _, flatL_map AddrD.flat _⟩, ⟨⟨rfl, s8i.ob _ _, flatL_map SubD.flat _⟩, ⟨⟨rfl, s9i.ob _ _, flatL_map HalfD.flat _⟩, ⟨⟨rfl, s19i.ob _ _, flatL_map PieceD.flat _⟩, ⟨⟨rfl, s20i.ob _ _, flatL_map (fun _ => rfl) _⟩, ⟨⟨rfl, s21i.ob _ _, flatL_map (fun _ => rfl) _⟩, ⟨⟨rfl, s31i.ob _ _, flatL_map AddrD.flat _⟩, ⟨⟨rfl, s32i.ob _ _, flatL_map AddrD.flat _⟩, ⟨⟨rfl, s33i.ob _ _, flatL_map SubD.flat _⟩, ⟨⟨rfl, s34i.ob _ _, flatL_map HalfD.flat _⟩, ⟨⟨rfl, s44i.ob _ _, flatL_map PieceD.flat _⟩, ⟨⟨rfl, s45i.ob _ _, flatL_map (fun _ => rfl) _⟩, ⟨⟨rfl, s46i.ob _ _, flatL_map (fun _ => rfl) _⟩, ⟨⟨rfl, s50i.ob _ _, flatL_map LetterD.flat _⟩, ⟨⟨rfl, s51i.ob _ _, flatL_map LetterD.flat _⟩, ⟨⟨rfl, s56i.ob _ _, flatL_map (fun _ => rfl) _⟩, ⟨⟨rfl, s57i.ob _ _, flatL_map TagD.flat _⟩, ⟨⟨rfl, s58i.ob _ _, flatL_map (fun _ => rfl) _⟩, ⟨⟨rfl, s59i.ob _ _, flatL_map (fun _ => rfl) _⟩, ⟨⟨rfl, s60i.ob _ _, flatL_map (fun _ => rfl) _⟩, trivial⟩⟩⟩⟩⟩⟩⟩⟩⟩⟩⟩⟩⟩⟩⟩⟩⟩⟩⟩⟩⟩

attribute [go_sem] WorldD.cs WorldD.hp WorldD.hpL
end
section
open Go.RowKit
set_option linter.unusedVariables false
set_option linter.unusedSimpArgs false
set_option maxRecDepth 20000

def PiecesD.szL (x : PiecesD) : List Int := [(x.ready.length : Int)] ++ (szLPiece x.list ++ [])
theorem PiecesD.szL_nn (x : PiecesD) : ∀ n ∈ x.szL, 0 ≤ n := by
  rw [PiecesD.szL]
  exact (nn_app (by simp) (nn_app (szLPiece_nn _) (by simp)))
set_option maxHeartbeats 4000000 in
theorem laws_szPieces (x : PiecesD) (m : Int) (hx : x.wf) (h0 : 0 ≤ m) (hm : m ≤ 1048576) : CallA Try.prog 45 [.ag (x.cs 0), .sc (.int .i64 m)] x.hpL (.sc (.int .i64 (szGo m x.szL))) x.hpL := by
  obtain ⟨R, hR⟩ : ∃ R, R = szGo m x.szL := ⟨_, rfl⟩
  rw [← hR]
  simp only [PiecesD.szL] at hR
  have hx' := hx
  obtain ⟨w0, w1, w2, w3⟩ := hx'
  simp only [maxLen] at w1 w3
  refine callA_of Try.func45 (by kernel_rfl) rfl fun E hE => run_den 400 ?_
  simp (disch := omega) only [Try.ntmps45, Try.results45, go_sem, Nat.reduceEqDiff, Nat.reduceAdd, Nat.reduceSub, Int.reduceAdd, Int.reduceSub, Int.reduceToNat]
  have e0 : szGo m [(x.ready.length : Int)] = (if m - (x.ready.length : Int) < 0 then -1 else m - (x.ready.length : Int)) := rfl
  generalize hr0 : szGo m [(x.ready.length : Int)] = r0 at e0
  have b0 := szGo_le h0 (by simp) hr0
  split <;> rename_i t0 <;> (try simp only [beq_true, beq_false, Bool.not_eq_true', Bool.not_eq_false'] at t0) <;> simp (disch := omega) only [go_sem, Nat.reduceEqDiff, Nat.reduceAdd, Nat.reduceSub, Int.reduceAdd, Int.reduceSub, Int.reduceToNat, t0] <;> (try simp only [decide_eq_true_eq, decide_eq_false_iff_not, beq_iff_eq, beq_eq_false_iff_ne, bne_iff_ne, bne_eq_false_iff_eq, ne_eq, Decidable.not_not, Bool.and_eq_true, Bool.and_eq_false_iff, Bool.or_eq_true, Bool.or_eq_false_iff, Int.ofNat_lt, Int.ofNat_le, Bool.not_eq_eq_eq_not, Bool.not_true, Bool.not_false] at t0) <;> try simp (disch := omega) only [go_sem, Nat.reduceEqDiff, Nat.reduceAdd, Nat.reduceSub, Int.reduceAdd, Int.reduceSub, Int.reduceToNat]
  · refine den_fin [some (0, none)] (by (try simp (disch := omega) only [go_sem, Nat.reduceEqDiff, Nat.reduceAdd, Nat.reduceSub, Int.reduceAdd, Int.reduceSub, Int.reduceToNat]) <;> omega) _ (by simp only [go_sem]; rfl) (by rfl) (by rfl) ?_
    simp (disch := omega) only [go_sem, Nat.reduceEqDiff, Nat.reduceAdd, Nat.reduceSub, Int.reduceAdd, Int.reduceSub, Int.reduceToNat]
    rw [hR, szGo_neg h0 hr0 (by split at e0 <;> omega)]
  · rw [szGo_pos h0 hr0 (by split at e0 <;> omega)] at hR
    have q0 : m - (x.ready.length : Int) = r0 := by split at e0 <;> omega
    rw [q0]
    have hl0 : 0 ≤ r0 := by omega
    have hm0 : r0 ≤ 1048576 := by omega
    refine den_call (by (try simp (disch := omega) only [go_sem, Nat.reduceEqDiff, Nat.reduceAdd, Nat.reduceSub, Int.reduceAdd, Int.reduceSub, Int.reduceToNat]) <;> omega) (laws_szPieceS x.list r0 w2 w3 hl0 hm0) [some (0, none)] (by simp only [go_sem]; repeat' first | rfl | constructor) (by rfl) (run_den 400 ?_)
    simp (disch := omega) only [go_sem, Nat.reduceEqDiff, Nat.reduceAdd, Nat.reduceSub, Int.reduceAdd, Int.reduceSub, Int.reduceToNat]
    generalize hr1 : szGo r0 (szLPiece x.list) = r1
    have b1 := szGo_le hl0 (szLPiece_nn _) hr1
    split <;> rename_i t1 <;> (try simp only [beq_true, beq_false, Bool.not_eq_true', Bool.not_eq_false'] at t1) <;> simp (disch := omega) only [go_sem, Nat.reduceEqDiff, Nat.reduceAdd, Nat.reduceSub, Int.reduceAdd, Int.reduceSub, Int.reduceToNat, t1] <;> (try simp only [decide_eq_true_eq, decide_eq_false_iff_not, beq_iff_eq, beq_eq_false_iff_ne, bne_iff_ne, bne_eq_false_iff_eq, ne_eq, Decidable.not_not, Bool.and_eq_true, Bool.and_eq_false_iff, Bool.or_eq_true, Bool.or_eq_false_iff, Int.ofNat_lt, Int.ofNat_le, Bool.not_eq_eq_eq_not, Bool.not_true, Bool.not_false] at t1) <;> try simp (disch := omega) only [go_sem, Nat.reduceEqDiff, Nat.reduceAdd, Nat.reduceSub, Int.reduceAdd, Int.reduceSub, Int.reduceToNat]
    · refine den_fin [some (0, none)] (by (try simp (disch := omega) only [go_sem, Nat.reduceEqDiff, Nat.reduceAdd, Nat.reduceSub, Int.reduceAdd, Int.reduceSub, Int.reduceToNat]) <;> omega) _ (by simp only [go_sem]; rfl) (by rfl) (by rfl) ?_
      simp (disch := omega) only [go_sem, Nat.reduceEqDiff, Nat.reduceAdd, Nat.reduceSub, Int.reduceAdd, Int.reduceSub, Int.reduceToNat]
      rw [hR, szGo_neg hl0 hr1 t1]
    · rw [szGo_pos hl0 hr1 t1] at hR
      have hl1 : 0 ≤ r1 := by omega
      have hm1 : r1 ≤ 1048576 := by omega
      refine den_fin [some (0, none)] (by (try simp (disch := omega) only [go_sem, Nat.reduceEqDiff, Nat.reduceAdd, Nat.reduceSub, Int.reduceAdd, Int.reduceSub, Int.reduceToNat]) <;> omega) _ (by simp only [go_sem]; rfl) (by rfl) (by rfl) ?_
      simp (disch := omega) only [go_sem, Nat.reduceEqDiff, Nat.reduceAdd, Nat.reduceSub, Int.reduceAdd, Int.reduceSub, Int.reduceToNat]
      rw [hR, szGo]
theorem PiecesD.sz_le {x : PiecesD} {m r : Int} (hm0 : 0 ≤ m) (hm : m ≤ 1048576) (h : szGo m x.szL = r) (h0 : 0 ≤ r) : x.list.length ≤ 1048576 := by
  have k := szGo_mem hm0 x.szL_nn (by rw [h]; exact h0)
  exact by have := k (x.list.length : Int) (by simp [PiecesD.szL, szLPiece]); omega
set_option maxHeartbeats 4000000 in
theorem laws_toPieces (x : PiecesD) (hl0 : x.list.length ≤ 1048576) : CallA Try.prog 55 [.ag (x.cs 0)] x.hpL (.ag (x.cs 1)) (x.hpL ++ x.hp true) := by
  refine callA_of Try.func55 (by kernel_rfl) rfl fun E hE => run_den 400 ?_
  simp (disch := omega) only [Try.ntmps55, Try.results55, go_sem, Nat.reduceEqDiff, Nat.reduceAdd, Nat.reduceSub, Int.reduceAdd, Int.reduceSub, Int.reduceToNat]
  refine den_call (by (try simp (disch := omega) only [go_sem, Nat.reduceEqDiff, Nat.reduceAdd, Nat.reduceSub, Int.reduceAdd, Int.reduceSub, Int.reduceToNat]) <;> omega) (laws_toPieceS x.list hl0) [some (0, none)] (by simp only [go_sem]; repeat' first | rfl | constructor) (by rfl) (run_den 400 ?_)
  simp (disch := omega) only [go_sem, Nat.reduceEqDiff, Nat.reduceAdd, Nat.reduceSub, Int.reduceAdd, Int.reduceSub, Int.reduceToNat]
  refine den_fin [some (0, none), some (4, none)] (by (try simp (disch := omega) only [go_sem, Nat.reduceEqDiff, Nat.reduceAdd, Nat.reduceSub, Int.reduceAdd, Int.reduceSub, Int.reduceToNat]) <;> omega) _ (by simp only [go_sem]; rfl) (by rfl) (by rfl) ?_
  simp (disch := omega) only [go_sem, Nat.reduceEqDiff, Nat.reduceAdd, Nat.reduceSub, Int.reduceAdd, Int.reduceSub, Int.reduceToNat]
set_option maxHeartbeats 4000000 in
theorem laws_eqPieces (x : PiecesD) (hl0 : x.list.length ≤ 4611686018427387904) : CallA Try.prog 65 [.ag (x.cs 0), .ag (x.cs 1)] (x.hp false ++ x.hp false) (.sc (.bo true)) (x.hp false ++ x.hp false) := by
  refine callA_of Try.func65 (by kernel_rfl) rfl fun E hE => run_den 400 ?_
  simp (disch := omega) only [Try.ntmps65, Try.results65, go_sem, Nat.reduceEqDiff, Nat.reduceAdd, Nat.reduceSub, Int.reduceAdd, Int.reduceSub, Int.reduceToNat]
  refine den_call (by (try simp (disch := omega) only [go_sem, Nat.reduceEqDiff, Nat.reduceAdd, Nat.reduceSub, Int.reduceAdd, Int.reduceSub, Int.reduceToNat]) <;> omega) (laws_eqPieceS x.list hl0) [some (0, none), some (1, none)] (by simp only [go_sem]; repeat' first | rfl | constructor) (by rfl) (run_den 400 ?_)
  simp (disch := omega) only [go_sem, Nat.reduceEqDiff, Nat.reduceAdd, Nat.reduceSub, Int.reduceAdd, Int.reduceSub, Int.reduceToNat]
  refine den_fin [some (0, none), some (1, none)] (by (try simp (disch := omega) only [go_sem, Nat.reduceEqDiff, Nat.reduceAdd, Nat.reduceSub, Int.reduceAdd, Int.reduceSub, Int.reduceToNat]) <;> omega) _ (by simp only [go_sem]; rfl) (by rfl) (by rfl) ?_
  simp (disch := omega) only [go_sem, Nat.reduceEqDiff, Nat.reduceAdd, Nat.reduceSub, Int.reduceAdd, Int.reduceSub, Int.reduceToNat]
def KnownD.szL (x : KnownD) : List Int := szLInt x.keys ++ (szLTag x.tags ++ [])
theorem KnownD.szL_nn (x : KnownD) : ∀ n ∈ x.szL, 0 ≤ n := by
  rw [KnownD.szL]
  exact (nn_app (szLInt_nn _) (nn_app (szLTag_nn _) (by simp)))
set_option maxHeartbeats 4000000 in
theorem laws_szKnown (x : KnownD) (m : Int) (hx : x.wf) (h0 : 0 ≤ m) (hm : m ≤ 1048576) : CallA Try.prog 25 [.ag (x.cs 0), .sc (.int .i64 m)] x.hpL (.sc (.int .i64 (szGo m x.szL))) x.hpL := by
  obtain ⟨R, hR⟩ : ∃ R, R = szGo m x.szL := ⟨_, rfl⟩
  rw [← hR]
  simp only [KnownD.szL] at hR
  have hx' := hx
  obtain ⟨w0, w1, w2, w3⟩ := hx'
  simp only [maxLen] at w2 w3
  refine callA_of Try.func25 (by kernel_rfl) rfl fun E hE => run_den 400 ?_
  simp (disch := omega) only [Try.ntmps25, Try.results25, go_sem, Nat.reduceEqDiff, Nat.reduceAdd, Nat.reduceSub, Int.reduceAdd, Int.reduceSub, Int.reduceToNat]
  refine den_call (by (try simp (disch := omega) only [go_sem, Nat.reduceEqDiff, Nat.reduceAdd, Nat.reduceSub, Int.reduceAdd, Int.reduceSub, Int.reduceToNat]) <;> omega) (laws_szIntS x.keys m w2 h0 hm) [some (0, none)] (by simp only [go_sem]; repeat' first | rfl | constructor) (by rfl) (run_den 400 ?_)
  simp (disch := omega) only [go_sem, Nat.reduceEqDiff, Nat.reduceAdd, Nat.reduceSub, Int.reduceAdd, Int.reduceSub, Int.reduceToNat]
  generalize hr0 : szGo m (szLInt x.keys) = r0
  have b0 := szGo_le h0 (szLInt_nn _) hr0
  split <;> rename_i t0 <;> (try simp only [beq_true, beq_false, Bool.not_eq_true', Bool.not_eq_false'] at t0) <;> simp (disch := omega) only [go_sem, Nat.reduceEqDiff, Nat.reduceAdd, Nat.reduceSub, Int.reduceAdd, Int.reduceSub, Int.reduceToNat, t0] <;> (try simp only [decide_eq_true_eq, decide_eq_false_iff_not, beq_iff_eq, beq_eq_false_iff_ne, bne_iff_ne, bne_eq_false_iff_eq, ne_eq, Decidable.not_not, Bool.and_eq_true, Bool.and_eq_false_iff, Bool.or_eq_true, Bool.or_eq_false_iff, Int.ofNat_lt, Int.ofNat_le, Bool.not_eq_eq_eq_not, Bool.not_true, Bool.not_false] at t0) <;> try simp (disch := omega) only [go_sem, Nat.reduceEqDiff, Nat.reduceAdd, Nat.reduceSub, Int.reduceAdd, Int.reduceSub, Int.reduceToNat]
  · refine den_fin [some (0, none), some (1, none)] (by (try simp (disch := omega) only [go_sem, Nat.reduceEqDiff, Nat.reduceAdd, Nat.reduceSub, Int.reduceAdd, Int.reduceSub, Int.reduceToNat]) <;> omega) _ (by simp only [go_sem]; rfl) (by rfl) (by rfl) ?_
    simp (disch := omega) only [go_sem, Nat.reduceEqDiff, Nat.reduceAdd, Nat.reduceSub, Int.reduceAdd, Int.reduceSub, Int.reduceToNat]
    rw [hR, szGo_neg h0 hr0 t0]
  · rw [szGo_pos h0 hr0 t0] at hR
    have hl0 : 0 ≤ r0 := by omega
    have hm0 : r0 ≤ 1048576 := by omega
    refine den_call (by (try simp (disch := omega) only [go_sem, Nat.reduceEqDiff, Nat.reduceAdd, Nat.reduceSub, Int.reduceAdd, Int.reduceSub, Int.reduceToNat]) <;> omega) (laws_szTagS x.tags r0 w3 hl0 hm0) [some (1, none)] (by simp only [go_sem]; repeat' first | rfl | constructor) (by rfl) (run_den 400 ?_)
    simp (disch := omega) only [go_sem, Nat.reduceEqDiff, Nat.reduceAdd, Nat.reduceSub, Int.reduceAdd, Int.reduceSub, Int.reduceToNat]
    generalize hr1 : szGo r0 (szLTag x.tags) = r1
    have b1 := szGo_le hl0 (szLTag_nn _) hr1
    split <;> rename_i t1 <;> (try simp only [beq_true, beq_false, Bool.not_eq_true', Bool.not_eq_false'] at t1) <;> simp (disch := omega) only [go_sem, Nat.reduceEqDiff, Nat.reduceAdd, Nat.reduceSub, Int.reduceAdd, Int.reduceSub, Int.reduceToNat, t1] <;> (try simp only [decide_eq_true_eq, decide_eq_false_iff_not, beq_iff_eq, beq_eq_false_iff_ne, bne_iff_ne, bne_eq_false_iff_eq, ne_eq, Decidable.not_not, Bool.and_eq_true, Bool.and_eq_false_iff, Bool.or_eq_true, Bool.or_eq_false_iff, Int.ofNat_lt, Int.ofNat_le, Bool.not_eq_eq_eq_not, Bool.not_true, Bool.not_false] at t1) <;> try simp (disch := omega) only [go_sem, Nat.reduceEqDiff, Nat.reduceAdd, Nat.reduceSub, Int.reduceAdd, Int.reduceSub, Int.reduceToNat]
    · refine den_fin [some (0, none), some (1, none)] (by (try simp (disch := omega) only [go_sem, Nat.reduceEqDiff, Nat.reduceAdd, Nat.reduceSub, Int.reduceAdd, Int.reduceSub, Int.reduceToNat]) <;> omega) _ (by simp only [go_sem]; rfl) (by rfl) (by rfl) ?_
      simp (disch := omega) only [go_sem, Nat.reduceEqDiff, Nat.reduceAdd, Nat.reduceSub, Int.reduceAdd, Int.reduceSub, Int.reduceToNat]
      rw [hR, szGo_neg hl0 hr1 t1]
    · rw [szGo_pos hl0 hr1 t1] at hR
      have hl1 : 0 ≤ r1 := by omega
      have hm1 : r1 ≤ 1048576 := by omega
      refine den_fin [some (0, none), some (1, none)] (by (try simp (disch := omega) only [go_sem, Nat.reduceEqDiff, Nat.reduceAdd, Nat.reduceSub, Int.reduceAdd, Int.reduceSub, Int.reduceToNat]) <;> omega) _ (by simp only [go_sem]; rfl) (by rfl) (by rfl) ?_
      simp (disch := omega) only [go_sem, Nat.reduceEqDiff, Nat.reduceAdd, Nat.reduceSub, Int.reduceAdd, Int.reduceSub, Int.reduceToNat]
      rw [hR, szGo]
theorem KnownD.sz_le {x : KnownD} {m r : Int} (hm0 : 0 ≤ m) (hm : m ≤ 1048576) (h : szGo m x.szL = r) (h0 : 0 ≤ r) : x.keys.length ≤ 1048576 ∧ x.tags.length ≤ 1048576 := by
  have k := szGo_mem hm0 x.szL_nn (by rw [h]; exact h0)
  exact ⟨by have := k (x.keys.length : Int) (by simp [KnownD.szL, szLTag, szLInt]); omega, by have := k (x.tags.length : Int) (by simp [KnownD.szL, szLTag, szLInt]); omega⟩
set_option maxHeartbeats 4000000 in
theorem laws_toKnown (x : KnownD) (hl0 : x.keys.length ≤ 1048576) (hl1 : x.tags.length ≤ 1048576) : CallA Try.prog 30 [.ag (x.cs 0)] x.hpL (.ag (x.cs 2)) (x.hpL ++ x.hp true) := by
  refine callA_of Try.func30 (by kernel_rfl) rfl fun E hE => run_den 400 ?_
  simp (disch := omega) only [Try.ntmps30, Try.results30, go_sem, Nat.reduceEqDiff, Nat.reduceAdd, Nat.reduceSub, Int.reduceAdd, Int.reduceSub, Int.reduceToNat]
  refine den_call (by (try simp (disch := omega) only [go_sem, Nat.reduceEqDiff, Nat.reduceAdd, Nat.reduceSub, Int.reduceAdd, Int.reduceSub, Int.reduceToNat]) <;> omega) (laws_toIntS x.keys hl0) [some (0, none)] (by simp only [go_sem]; repeat' first | rfl | constructor) (by rfl) (run_den 400 ?_)
  simp (disch := omega) only [go_sem, Nat.reduceEqDiff, Nat.reduceAdd, Nat.reduceSub, Int.reduceAdd, Int.reduceSub, Int.reduceToNat]
  refine den_call (by (try simp (disch := omega) only [go_sem, Nat.reduceEqDiff, Nat.reduceAdd, Nat.reduceSub, Int.reduceAdd, Int.reduceSub, Int.reduceToNat]) <;> omega) (laws_toTagS x.tags hl1) [some (1, none)] (by simp only [go_sem]; repeat' first | rfl | constructor) (by rfl) (run_den 400 ?_)
  simp (disch := omega) only [go_sem, Nat.reduceEqDiff, Nat.reduceAdd, Nat.reduceSub, Int.reduceAdd, Int.reduceSub, Int.reduceToNat]
  refine den_fin [some (0, none), some (1, none), some (5, none), some (6, none)] (by (try simp (disch := omega) only [go_sem, Nat.reduceEqDiff, Nat.reduceAdd, Nat.reduceSub, Int.reduceAdd, Int.reduceSub, Int.reduceToNat]) <;> omega) _ (by simp only [go_sem]; rfl) (by rfl) (by rfl) ?_
  simp (disch := omega) only [go_sem, Nat.reduceEqDiff, Nat.reduceAdd, Nat.reduceSub, Int.reduceAdd, Int.reduceSub, Int.reduceToNat]
set_option maxHeartbeats 4000000 in
theorem laws_eqKnown (x : KnownD) (hl0 : x.keys.length ≤ 4611686018427387904) (hl1 : x.tags.length ≤ 4611686018427387904) : CallA Try.prog 36 [.ag (x.cs 0), .ag (x.cs 2)] (x.hp false ++ x.hp false) (.sc (.bo true)) (x.hp false ++ x.hp false) := by
  refine callA_of Try.func36 (by kernel_rfl) rfl fun E hE => run_den 400 ?_
  simp (disch := omega) only [Try.ntmps36, Try.results36, go_sem, Nat.reduceEqDiff, Nat.reduceAdd, Nat.reduceSub, Int.reduceAdd, Int.reduceSub, Int.reduceToNat]
  refine den_call (by (try simp (disch := omega) only [go_sem, Nat.reduceEqDiff, Nat.reduceAdd, Nat.reduceSub, Int.reduceAdd, Int.reduceSub, Int.reduceToNat]) <;> omega) (laws_eqIntS x.keys hl0) [some (0, none), some (2, none)] (by simp only [go_sem]; repeat' first | rfl | constructor) (by rfl) (run_den 400 ?_)
  simp (disch := omega) only [go_sem, Nat.reduceEqDiff, Nat.reduceAdd, Nat.reduceSub, Int.reduceAdd, Int.reduceSub, Int.reduceToNat]
  refine den_call (by (try simp (disch := omega) only [go_sem, Nat.reduceEqDiff, Nat.reduceAdd, Nat.reduceSub, Int.reduceAdd, Int.reduceSub, Int.reduceToNat]) <;> omega) (laws_eqTagS x.tags hl1) [some (1, none), some (3, none)] (by simp only [go_sem]; repeat' first | rfl | constructor) (by rfl) (run_den 400 ?_)
  simp (disch := omega) only [go_sem, Nat.reduceEqDiff, Nat.reduceAdd, Nat.reduceSub, Int.reduceAdd, Int.reduceSub, Int.reduceToNat]
  refine den_fin [some (0, none), some (1, none), some (2, none), some (3, none)] (by (try simp (disch := omega) only [go_sem, Nat.reduceEqDiff, Nat.reduceAdd, Nat.reduceSub, Int.reduceAdd, Int.reduceSub, Int.reduceToNat]) <;> omega) _ (by simp only [go_sem]; rfl) (by rfl) (by rfl) ?_
  simp (disch := omega) only [go_sem, Nat.reduceEqDiff, Nat.reduceAdd, Nat.reduceSub, Int.reduceAdd, Int.reduceSub, Int.reduceToNat]
def EndD.szL (x : EndD) : List Int := szLAddr x.own ++ (szLAddr x.far ++ (szLSub x.subs ++ (szLHalf x.halfs ++ ([(x.out.text.length : Int)] ++ (PiecesD.szL x.inp ++ (szLInt x.done ++ (szLInt x.over ++ [])))))))
theorem EndD.szL_nn (x : EndD) : ∀ n ∈ x.szL, 0 ≤ n := by
  rw [EndD.szL]
  exact (nn_app (szLAddr_nn _) (nn_app (szLAddr_nn _) (nn_app (szLSub_nn _) (nn_app (szLHalf_nn _) (nn_app (by simp) (nn_app (PiecesD.szL_nn _) (nn_app (szLInt_nn _) (nn_app (szLInt_nn _) (by simp)))))))))
set_option maxHeartbeats 4000000 in
theorem laws_szEnd (x : EndD) (m : Int) (hx : x.wf) (h0 : 0 ≤ m) (hm : m ≤ 1048576) : CallA Try.prog 23 [.ag (x.cs 0), .sc (.int .i64 m)] x.hpL (.sc (.int .i64 (szGo m x.szL))) x.hpL := by
  obtain ⟨R, hR⟩ : ∃ R, R = szGo m x.szL := ⟨_, rfl⟩
  rw [← hR]
  simp only [EndD.szL] at hR
  have hx' := hx
  obtain ⟨w0, w1, w2, w3, w4, w5, w6, w7, w8, w9, w10, w11, w12, w13, w14, w15, w16, w17, w18, w19, w20, w21, w22, w23, w24, w25, w26, w27, w28, w29, w30, w31⟩ := hx'
  simp only [maxLen] at w9 w14 w25 w26 w27 w28 w29 w30 w31
  refine callA_of Try.func23 (by kernel_rfl) rfl fun E hE => run_den 400 ?_
  simp (disch := omega) only [Try.ntmps23, Try.results23, go_sem, Nat.reduceEqDiff, Nat.reduceAdd, Nat.reduceSub, Int.reduceAdd, Int.reduceSub, Int.reduceToNat]
  refine den_call (by (try simp (disch := omega) only [go_sem, Nat.reduceEqDiff, Nat.reduceAdd, Nat.reduceSub, Int.reduceAdd, Int.reduceSub, Int.reduceToNat]) <;> omega) (laws_szAddrS x.own m w25 h0 hm) [some (0, none)] (by simp only [go_sem]; repeat' first | rfl | constructor) (by rfl) (run_den 400 ?_)
  simp (disch := omega) only [go_sem, Nat.reduceEqDiff, Nat.reduceAdd, Nat.reduceSub, Int.reduceAdd, Int.reduceSub, Int.reduceToNat]
  generalize hr0 : szGo m (szLAddr x.own) = r0
  have b0 := szGo_le h0 (szLAddr_nn _) hr0
  split <;> rename_i t0 <;> (try simp only [beq_true, beq_false, Bool.not_eq_true', Bool.not_eq_false'] at t0) <;> simp (disch := omega) only [go_sem, Nat.reduceEqDiff, Nat.reduceAdd, Nat.reduceSub, Int.reduceAdd, Int.reduceSub, Int.reduceToNat, t0] <;> (try simp only [decide_eq_true_eq, decide_eq_false_iff_not, beq_iff_eq, beq_eq_false_iff_ne, bne_iff_ne, bne_eq_false_iff_eq, ne_eq, Decidable.not_not, Bool.and_eq_true, Bool.and_eq_false_iff, Bool.or_eq_true, Bool.or_eq_false_iff, Int.ofNat_lt, Int.ofNat_le, Bool.not_eq_eq_eq_not, Bool.not_true, Bool.not_false] at t0) <;> try simp (disch := omega) only [go_sem, Nat.reduceEqDiff, Nat.reduceAdd, Nat.reduceSub, Int.reduceAdd, Int.reduceSub, Int.reduceToNat]
  · refine den_fin [some (0, none), some (1, none), some (2, none), some (3, none), some (4, none), some (5, none), some (6, none)] (by (try simp (disch := omega) only [go_sem, Nat.reduceEqDiff, Nat.reduceAdd, Nat.reduceSub, Int.reduceAdd, Int.reduceSub, Int.reduceToNat]) <;> omega) _ (by simp only [go_sem]; rfl) (by rfl) (by rfl) ?_
    simp (disch := omega) only [go_sem, Nat.reduceEqDiff, Nat.reduceAdd, Nat.reduceSub, Int.reduceAdd, Int.reduceSub, Int.reduceToNat]
    rw [hR, szGo_neg h0 hr0 t0]
  · rw [szGo_pos h0 hr0 t0] at hR
    have hl0 : 0 ≤ r0 := by omega
    have hm0 : r0 ≤ 1048576 := by omega
    refine den_call (by (try simp (disch := omega) only [go_sem, Nat.reduceEqDiff, Nat.reduceAdd, Nat.reduceSub, Int.reduceAdd, Int.reduceSub, Int.reduceToNat]) <;> omega) (laws_szAddrS x.far r0 w26 hl0 hm0) [some (1, none)] (by simp only [go_sem]; repeat' first | rfl | constructor) (by rfl) (run_den 400 ?_)
    simp (disch := omega) only [go_sem, Nat.reduceEqDiff, Nat.reduceAdd, Nat.reduceSub, Int.reduceAdd, Int.reduceSub, Int.reduceToNat]
    generalize hr1 : szGo r0 (szLAddr x.far) = r1
    have b1 := szGo_le hl0 (szLAddr_nn _) hr1
    split <;> rename_i t1 <;> (try simp only [beq_true, beq_false, Bool.not_eq_true', Bool.not_eq_false'] at t1) <;> simp (disch := omega) only [go_sem, Nat.reduceEqDiff, Nat.reduceAdd, Nat.reduceSub, Int.reduceAdd, Int.reduceSub, Int.reduceToNat, t1] <;> (try simp only [decide_eq_true_eq, decide_eq_false_iff_not, beq_iff_eq, beq_eq_false_iff_ne, bne_iff_ne, bne_eq_false_iff_eq, ne_eq, Decidable.not_not, Bool.and_eq_true, Bool.and_eq_false_iff, Bool.or_eq_true, Bool.or_eq_false_iff, Int.ofNat_lt, Int.ofNat_le, Bool.not_eq_eq_eq_not, Bool.not_true, Bool.not_false] at t1) <;> try simp (disch := omega) only [go_sem, Nat.reduceEqDiff, Nat.reduceAdd, Nat.reduceSub, Int.reduceAdd, Int.reduceSub, Int.reduceToNat]
    · refine den_fin [some (0, none), some (1, none), some (2, none), some (3, none), some (4, none), some (5, none), some (6, none)] (by (try simp (disch := omega) only [go_sem, Nat.reduceEqDiff, Nat.reduceAdd, Nat.reduceSub, Int.reduceAdd, Int.reduceSub, Int.reduceToNat]) <;> omega) _ (by simp only [go_sem]; rfl) (by rfl) (by rfl) ?_
      simp (disch := omega) only [go_sem, Nat.reduceEqDiff, Nat.reduceAdd, Nat.reduceSub, Int.reduceAdd, Int.reduceSub, Int.reduceToNat]
      rw [hR, szGo_neg hl0 hr1 t1]
    · rw [szGo_pos hl0 hr1 t1] at hR
      have hl1 : 0 ≤ r1 := by omega
      have hm1 : r1 ≤ 1048576 := by omega
      refine den_call (by (try simp (disch := omega) only [go_sem, Nat.reduceEqDiff, Nat.reduceAdd, Nat.reduceSub, Int.reduceAdd, Int.reduceSub, Int.reduceToNat]) <;> omega) (laws_szSubS x.subs r1 w27 hl1 hm1) [some (2, none)] (by simp only [go_sem]; repeat' first | rfl | constructor) (by rfl) (run_den 400 ?_)
      simp (disch := omega) only [go_sem, Nat.reduceEqDiff, Nat.reduceAdd, Nat.reduceSub, Int.reduceAdd, Int.reduceSub, Int.reduceToNat]
      generalize hr2 : szGo r1 (szLSub x.subs) = r2
      have b2 := szGo_le hl1 (szLSub_nn _) hr2
      split <;> rename_i t2 <;> (try simp only [beq_true, beq_false, Bool.not_eq_true', Bool.not_eq_false'] at t2) <;> simp (disch := omega) only [go_sem, Nat.reduceEqDiff, Nat.reduceAdd, Nat.reduceSub, Int.reduceAdd, Int.reduceSub, Int.reduceToNat, t2] <;> (try simp only [decide_eq_true_eq, decide_eq_false_iff_not, beq_iff_eq, beq_eq_false_iff_ne, bne_iff_ne, bne_eq_false_iff_eq, ne_eq, Decidable.not_not, Bool.and_eq_true, Bool.and_eq_false_iff, Bool.or_eq_true, Bool.or_eq_false_iff, Int.ofNat_lt, Int.ofNat_le, Bool.not_eq_eq_eq_not, Bool.not_true, Bool.not_false] at t2) <;> try simp (disch := omega) only [go_sem, Nat.reduceEqDiff, Nat.reduceAdd, Nat.reduceSub, Int.reduceAdd, Int.reduceSub, Int.reduceToNat]
      · refine den_fin [some (0, none), some (1, none), some (2, none), some (3, none), some (4, none), some (5, none), some (6, none)] (by (try simp (disch := omega) only [go_sem, Nat.reduceEqDiff, Nat.reduceAdd, Nat.reduceSub, Int.reduceAdd, Int.reduceSub, Int.reduceToNat]) <;> omega) _ (by simp only [go_sem]; rfl) (by rfl) (by rfl) ?_
        simp (disch := omega) only [go_sem, Nat.reduceEqDiff, Nat.reduceAdd, Nat.reduceSub, Int.reduceAdd, Int.reduceSub, Int.reduceToNat]
        rw [hR, szGo_neg hl1 hr2 t2]
      · rw [szGo_pos hl1 hr2 t2] at hR
        have hl2 : 0 ≤ r2 := by omega
        have hm2 : r2 ≤ 1048576 := by omega
        refine den_call (by (try simp (disch := omega) only [go_sem, Nat.reduceEqDiff, Nat.reduceAdd, Nat.reduceSub, Int.reduceAdd, Int.reduceSub, Int.reduceToNat]) <;> omega) (laws_szHalfS x.halfs r2 w28 hl2 hm2) [some (3, none)] (by simp only [go_sem]; repeat' first | rfl | constructor) (by rfl) (run_den 400 ?_)
        simp (disch := omega) only [go_sem, Nat.reduceEqDiff, Nat.reduceAdd, Nat.reduceSub, Int.reduceAdd, Int.reduceSub, Int.reduceToNat]
        generalize hr3 : szGo r2 (szLHalf x.halfs) = r3
        have b3 := szGo_le hl2 (szLHalf_nn _) hr3
        split <;> rename_i t3 <;> (try simp only [beq_true, beq_false, Bool.not_eq_true', Bool.not_eq_false'] at t3) <;> simp (disch := omega) only [go_sem, Nat.reduceEqDiff, Nat.reduceAdd, Nat.reduceSub, Int.reduceAdd, Int.reduceSub, Int.reduceToNat, t3] <;> (try simp only [decide_eq_true_eq, decide_eq_false_iff_not, beq_iff_eq, beq_eq_false_iff_ne, bne_iff_ne, bne_eq_false_iff_eq, ne_eq, Decidable.not_not, Bool.and_eq_true, Bool.and_eq_false_iff, Bool.or_eq_true, Bool.or_eq_false_iff, Int.ofNat_lt, Int.ofNat_le, Bool.not_eq_eq_eq_not, Bool.not_true, Bool.not_false] at t3) <;> try simp (disch := omega) only [go_sem, Nat.reduceEqDiff, Nat.reduceAdd, Nat.reduceSub, Int.reduceAdd, Int.reduceSub, Int.reduceToNat]
        · refine den_fin [some (0, none), some (1, none), some (2, none), some (3, none), some (4, none), some (5, none), some (6, none)] (by (try simp (disch := omega) only [go_sem, Nat.reduceEqDiff, Nat.reduceAdd, Nat.reduceSub, Int.reduceAdd, Int.reduceSub, Int.reduceToNat]) <;> omega) _ (by simp only [go_sem]; rfl) (by rfl) (by rfl) ?_
          simp (disch := omega) only [go_sem, Nat.reduceEqDiff, Nat.reduceAdd, Nat.reduceSub, Int.reduceAdd, Int.reduceSub, Int.reduceToNat]
          rw [hR, szGo_neg hl2 hr3 t3]
        · rw [szGo_pos hl2 hr3 t3] at hR
          have hl3 : 0 ≤ r3 := by omega
          have hm3 : r3 ≤ 1048576 := by omega
          refine den_call (by (try simp (disch := omega) only [go_sem, Nat.reduceEqDiff, Nat.reduceAdd, Nat.reduceSub, Int.reduceAdd, Int.reduceSub, Int.reduceToNat]) <;> omega) (laws_szOut x.out r3 w9 hl3 hm3) [] (by simp only [go_sem]; repeat' first | rfl | constructor) (by rfl) (run_den 400 ?_)
          simp (disch := omega) only [go_sem, Nat.reduceEqDiff, Nat.reduceAdd, Nat.reduceSub, Int.reduceAdd, Int.reduceSub, Int.reduceToNat]
          generalize hr4 : szGo r3 ([(x.out.text.length : Int)]) = r4
          have b4 := szGo_le hl3 (by simp) hr4
          split <;> rename_i t4 <;> (try simp only [beq_true, beq_false, Bool.not_eq_true', Bool.not_eq_false'] at t4) <;> simp (disch := omega) only [go_sem, Nat.reduceEqDiff, Nat.reduceAdd, Nat.reduceSub, Int.reduceAdd, Int.reduceSub, Int.reduceToNat, t4] <;> (try simp only [decide_eq_true_eq, decide_eq_false_iff_not, beq_iff_eq, beq_eq_false_iff_ne, bne_iff_ne, bne_eq_false_iff_eq, ne_eq, Decidable.not_not, Bool.and_eq_true, Bool.and_eq_false_iff, Bool.or_eq_true, Bool.or_eq_false_iff, Int.ofNat_lt, Int.ofNat_le, Bool.not_eq_eq_eq_not, Bool.not_true, Bool.not_false] at t4) <;> try simp (disch := omega) only [go_sem, Nat.reduceEqDiff, Nat.reduceAdd, Nat.reduceSub, Int.reduceAdd, Int.reduceSub, Int.reduceToNat]
          · refine den_fin [some (0, none), some (1, none), some (2, none), some (3, none), some (4, none), some (5, none), some (6, none)] (by (try simp (disch := omega) only [go_sem, Nat.reduceEqDiff, Nat.reduceAdd, Nat.reduceSub, Int.reduceAdd, Int.reduceSub, Int.reduceToNat]) <;> omega) _ (by simp only [go_sem]; rfl) (by rfl) (by rfl) ?_
            simp (disch := omega) only [go_sem, Nat.reduceEqDiff, Nat.reduceAdd, Nat.reduceSub, Int.reduceAdd, Int.reduceSub, Int.reduceToNat]
            rw [hR, szGo_neg hl3 hr4 t4]
          · rw [szGo_pos hl3 hr4 t4] at hR
            have hl4 : 0 ≤ r4 := by omega
            have hm4 : r4 ≤ 1048576 := by omega
            refine den_call (by (try simp (disch := omega) only [go_sem, Nat.reduceEqDiff, Nat.reduceAdd, Nat.reduceSub, Int.reduceAdd, Int.reduceSub, Int.reduceToNat]) <;> omega) (laws_szPieces x.inp r4 (EndD.wf_inp hx) hl4 hm4) [some (4, none)] (by simp only [go_sem]; repeat' first | rfl | constructor) (by rfl) (run_den 400 ?_)
            simp (disch := omega) only [go_sem, Nat.reduceEqDiff, Nat.reduceAdd, Nat.reduceSub, Int.reduceAdd, Int.reduceSub, Int.reduceToNat]
            generalize hr5 : szGo r4 (PiecesD.szL x.inp) = r5
            have b5 := szGo_le hl4 (PiecesD.szL_nn _) hr5
            split <;> rename_i t5 <;> (try simp only [beq_true, beq_false, Bool.not_eq_true', Bool.not_eq_false'] at t5) <;> simp (disch := omega) only [go_sem, Nat.reduceEqDiff, Nat.reduceAdd, Nat.reduceSub, Int.reduceAdd, Int.reduceSub, Int.reduceToNat, t5] <;> (try simp only [decide_eq_true_eq, decide_eq_false_iff_not, beq_iff_eq, beq_eq_false_iff_ne, bne_iff_ne, bne_eq_false_iff_eq, ne_eq, Decidable.not_not, Bool.and_eq_true, Bool.and_eq_false_iff, Bool.or_eq_true, Bool.or_eq_false_iff, Int.ofNat_lt, Int.ofNat_le, Bool.not_eq_eq_eq_not, Bool.not_true, Bool.not_false] at t5) <;> try simp (disch := omega) only [go_sem, Nat.reduceEqDiff, Nat.reduceAdd, Nat.reduceSub, Int.reduceAdd, Int.reduceSub, Int.reduceToNat]
            · refine den_fin [some (0, none), some (1, none), some (2, none), some (3, none), some (4, none), some (5, none), some (6, none)] (by (try simp (disch := omega) only [go_sem, Nat.reduceEqDiff, Nat.reduceAdd, Nat.reduceSub, Int.reduceAdd, Int.reduceSub, Int.reduceToNat]) <;> omega) _ (by simp only [go_sem]; rfl) (by rfl) (by rfl) ?_
              simp (disch := omega) only [go_sem, Nat.reduceEqDiff, Nat.reduceAdd, Nat.reduceSub, Int.reduceAdd, Int.reduceSub, Int.reduceToNat]
              rw [hR, szGo_neg hl4 hr5 t5]
            · rw [szGo_pos hl4 hr5 t5] at hR
              have hl5 : 0 ≤ r5 := by omega
              have hm5 : r5 ≤ 1048576 := by omega
              refine den_call (by (try simp (disch := omega) only [go_sem, Nat.reduceEqDiff, Nat.reduceAdd, Nat.reduceSub, Int.reduceAdd, Int.reduceSub, Int.reduceToNat]) <;> omega) (laws_szIntS x.done r5 w30 hl5 hm5) [some (5, none)] (by simp only [go_sem]; repeat' first | rfl | constructor) (by rfl) (run_den 400 ?_)
              simp (disch := omega) only [go_sem, Nat.reduceEqDiff, Nat.reduceAdd, Nat.reduceSub, Int.reduceAdd, Int.reduceSub, Int.reduceToNat]
              generalize hr6 : szGo r5 (szLInt x.done) = r6
              have b6 := szGo_le hl5 (szLInt_nn _) hr6
              split <;> rename_i t6 <;> (try simp only [beq_true, beq_false, Bool.not_eq_true', Bool.not_eq_false'] at t6) <;> simp (disch := omega) only [go_sem, Nat.reduceEqDiff, Nat.reduceAdd, Nat.reduceSub, Int.reduceAdd, Int.reduceSub, Int.reduceToNat, t6] <;> (try simp only [decide_eq_true_eq, decide_eq_false_iff_not, beq_iff_eq, beq_eq_false_iff_ne, bne_iff_ne, bne_eq_false_iff_eq, ne_eq, Decidable.not_not, Bool.and_eq_true, Bool.and_eq_false_iff, Bool.or_eq_true, Bool.or_eq_false_iff, Int.ofNat_lt, Int.ofNat_le, Bool.not_eq_eq_eq_not, Bool.not_true, Bool.not_false] at t6) <;> try simp (disch := omega) only [go_sem, Nat.reduceEqDiff, Nat.reduceAdd, Nat.reduceSub, Int.reduceAdd, Int.reduceSub, Int.reduceToNat]
              · refine den_fin [some (0, none), some (1, none), some (2, none), some (3, none), some (4, none), some (5, none), some (6, none)] (by (try simp (disch := omega) only [go_sem, Nat.reduceEqDiff, Nat.reduceAdd, Nat.reduceSub, Int.reduceAdd, Int.reduceSub, Int.reduceToNat]) <;> omega) _ (by simp only [go_sem]; rfl) (by rfl) (by rfl) ?_
                simp (disch := omega) only [go_sem, Nat.reduceEqDiff, Nat.reduceAdd, Nat.reduceSub, Int.reduceAdd, Int.reduceSub, Int.reduceToNat]
                rw [hR, szGo_neg hl5 hr6 t6]
              · rw [szGo_pos hl5 hr6 t6] at hR
                have hl6 : 0 ≤ r6 := by omega
                have hm6 : r6 ≤ 1048576 := by omega
                refine den_call (by (try simp (disch := omega) only [go_sem, Nat.reduceEqDiff, Nat.reduceAdd, Nat.reduceSub, Int.reduceAdd, Int.reduceSub, Int.reduceToNat]) <;> omega) (laws_szIntS x.over r6 w31 hl6 hm6) [some (6, none)] (by simp only [go_sem]; repeat' first | rfl | constructor) (by rfl) (run_den 400 ?_)
                simp (disch := omega) only [go_sem, Nat.reduceEqDiff, Nat.reduceAdd, Nat.reduceSub, Int.reduceAdd, Int.reduceSub, Int.reduceToNat]
                generalize hr7 : szGo r6 (szLInt x.over) = r7
                have b7 := szGo_le hl6 (szLInt_nn _) hr7
                split <;> rename_i t7 <;> (try simp only [beq_true, beq_false, Bool.not_eq_true', Bool.not_eq_false'] at t7) <;> simp (disch := omega) only [go_sem, Nat.reduceEqDiff, Nat.reduceAdd, Nat.reduceSub, Int.reduceAdd, Int.reduceSub, Int.reduceToNat, t7] <;> (try simp only [decide_eq_true_eq, decide_eq_false_iff_not, beq_iff_eq, beq_eq_false_iff_ne, bne_iff_ne, bne_eq_false_iff_eq, ne_eq, Decidable.not_not, Bool.and_eq_true, Bool.and_eq_false_iff, Bool.or_eq_true, Bool.or_eq_false_iff, Int.ofNat_lt, Int.ofNat_le, Bool.not_eq_eq_eq_not, Bool.not_true, Bool.not_false] at t7) <;> try simp (disch := omega) only [go_sem, Nat.reduceEqDiff, Nat.reduceAdd, Nat.reduceSub, Int.reduceAdd, Int.reduceSub, Int.reduceToNat]
                · refine den_fin [some (0, none), some (1, none), some (2, none), some (3, none), some (4, none), some (5, none), some (6, none)] (by (try simp (disch := omega) only [go_sem, Nat.reduceEqDiff, Nat.reduceAdd, Nat.reduceSub, Int.reduceAdd, Int.reduceSub, Int.reduceToNat]) <;> omega) _ (by simp only [go_sem]; rfl) (by rfl) (by rfl) ?_
                  simp (disch := omega) only [go_sem, Nat.reduceEqDiff, Nat.reduceAdd, Nat.reduceSub, Int.reduceAdd, Int.reduceSub, Int.reduceToNat]
                  rw [hR, szGo_neg hl6 hr7 t7]
                · rw [szGo_pos hl6 hr7 t7] at hR
                  have hl7 : 0 ≤ r7 := by omega
                  have hm7 : r7 ≤ 1048576 := by omega
                  refine den_fin [some (0, none), some (1, none), some (2, none), some (3, none), some (4, none), some (5, none), some (6, none)] (by (try simp (disch := omega) only [go_sem, Nat.reduceEqDiff, Nat.reduceAdd, Nat.reduceSub, Int.reduceAdd, Int.reduceSub, Int.reduceToNat]) <;> omega) _ (by simp only [go_sem]; rfl) (by rfl) (by rfl) ?_
                  simp (disch := omega) only [go_sem, Nat.reduceEqDiff, Nat.reduceAdd, Nat.reduceSub, Int.reduceAdd, Int.reduceSub, Int.reduceToNat]
                  rw [hR, szGo]
theorem EndD.sz_le {x : EndD} {m r : Int} (hm0 : 0 ≤ m) (hm : m ≤ 1048576) (h : szGo m x.szL = r) (h0 : 0 ≤ r) : x.own.length ≤ 1048576 ∧ x.far.length ≤ 1048576 ∧ x.subs.length ≤ 1048576 ∧ x.halfs.length ≤ 1048576 ∧ x.inp.list.length ≤ 1048576 ∧ x.done.length ≤ 1048576 ∧ x.over.length ≤ 1048576 := by
  have k := szGo_mem hm0 x.szL_nn (by rw [h]; exact h0)
  exact ⟨by have := k (x.own.length : Int) (by simp [PiecesD.szL, EndD.szL, szLAddr, szLHalf, szLPiece, szLSub, szLInt]); omega, by have := k (x.far.length : Int) (by simp [PiecesD.szL, EndD.szL, szLAddr, szLHalf, szLPiece, szLSub, szLInt]); omega, by have := k (x.subs.length : Int) (by simp [PiecesD.szL, EndD.szL, szLAddr, szLHalf, szLPiece, szLSub, szLInt]); omega, by have := k (x.halfs.length : Int) (by simp [PiecesD.szL, EndD.szL, szLAddr, szLHalf, szLPiece, szLSub, szLInt]); omega, by have := k (x.inp.list.length : Int) (by simp [PiecesD.szL, EndD.szL, szLAddr, szLHalf, szLPiece, szLSub, szLInt]); omega, by have := k (x.done.length : Int) (by simp [PiecesD.szL, EndD.szL, szLAddr, szLHalf, szLPiece, szLSub, szLInt]); omega, by have := k (x.over.length : Int) (by simp [PiecesD.szL, EndD.szL, szLAddr, szLHalf, szLPiece, szLSub, szLInt]); omega⟩
set_option maxHeartbeats 4000000 in
theorem laws_toEnd (x : EndD) (hl0 : x.own.length ≤ 1048576) (hl1 : x.far.length ≤ 1048576) (hl2 : x.subs.length ≤ 1048576) (hl3 : x.halfs.length ≤ 1048576) (hl4 : x.inp.list.length ≤ 1048576) (hl5 : x.done.length ≤ 1048576) (hl6 : x.over.length ≤ 1048576) : CallA Try.prog 28 [.ag (x.cs 0)] x.hpL (.ag (x.cs 7)) (x.hpL ++ x.hp true) := by
  refine callA_of Try.func28 (by kernel_rfl) rfl fun E hE => run_den 400 ?_
  simp (disch := omega) only [Try.ntmps28, Try.results28, go_sem, Nat.reduceEqDiff, Nat.reduceAdd, Nat.reduceSub, Int.reduceAdd, Int.reduceSub, Int.reduceToNat]
  refine den_call (by (try simp (disch := omega) only [go_sem, Nat.reduceEqDiff, Nat.reduceAdd, Nat.reduceSub, Int.reduceAdd, Int.reduceSub, Int.reduceToNat]) <;> omega) (laws_toPolicy x.policy) [] (by simp only [go_sem]; repeat' first | rfl | constructor) (by rfl) (run_den 400 ?_)
  simp (disch := omega) only [go_sem, Nat.reduceEqDiff, Nat.reduceAdd, Nat.reduceSub, Int.reduceAdd, Int.reduceSub, Int.reduceToNat]
  refine den_call (by (try simp (disch := omega) only [go_sem, Nat.reduceEqDiff, Nat.reduceAdd, Nat.reduceSub, Int.reduceAdd, Int.reduceSub, Int.reduceToNat]) <;> omega) (laws_toAddrS x.own hl0) [some (0, none)] (by simp only [go_sem]; repeat' first | rfl | constructor) (by rfl) (run_den 400 ?_)
  simp (disch := omega) only [go_sem, Nat.reduceEqDiff, Nat.reduceAdd, Nat.reduceSub, Int.reduceAdd, Int.reduceSub, Int.reduceToNat]
  refine den_call (by (try simp (disch := omega) only [go_sem, Nat.reduceEqDiff, Nat.reduceAdd, Nat.reduceSub, Int.reduceAdd, Int.reduceSub, Int.reduceToNat]) <;> omega) (laws_toAddrS x.far hl1) [some (1, none)] (by simp only [go_sem]; repeat' first | rfl | constructor) (by rfl) (run_den 400 ?_)
  simp (disch := omega) only [go_sem, Nat.reduceEqDiff, Nat.reduceAdd, Nat.reduceSub, Int.reduceAdd, Int.reduceSub, Int.reduceToNat]
  refine den_call (by (try simp (disch := omega) only [go_sem, Nat.reduceEqDiff, Nat.reduceAdd, Nat.reduceSub, Int.reduceAdd, Int.reduceSub, Int.reduceToNat]) <;> omega) (laws_toSubS x.subs hl2) [some (2, none)] (by simp only [go_sem]; repeat' first | rfl | constructor) (by rfl) (run_den 400 ?_)
  simp (disch := omega) only [go_sem, Nat.reduceEqDiff, Nat.reduceAdd, Nat.reduceSub, Int.reduceAdd, Int.reduceSub, Int.reduceToNat]
  refine den_call (by (try simp (disch := omega) only [go_sem, Nat.reduceEqDiff, Nat.reduceAdd, Nat.reduceSub, Int.reduceAdd, Int.reduceSub, Int.reduceToNat]) <;> omega) (laws_toHalfS x.halfs hl3) [some (3, none)] (by simp only [go_sem]; repeat' first | rfl | constructor) (by rfl) (run_den 400 ?_)
  simp (disch := omega) only [go_sem, Nat.reduceEqDiff, Nat.reduceAdd, Nat.reduceSub, Int.reduceAdd, Int.reduceSub, Int.reduceToNat]
  refine den_call (by (try simp (disch := omega) only [go_sem, Nat.reduceEqDiff, Nat.reduceAdd, Nat.reduceSub, Int.reduceAdd, Int.reduceSub, Int.reduceToNat]) <;> omega) (laws_toBucket x.bucket) [] (by simp only [go_sem]; repeat' first | rfl | constructor) (by rfl) (run_den 400 ?_)
  simp (disch := omega) only [go_sem, Nat.reduceEqDiff, Nat.reduceAdd, Nat.reduceSub, Int.reduceAdd, Int.reduceSub, Int.reduceToNat]
  refine den_call (by (try simp (disch := omega) only [go_sem, Nat.reduceEqDiff, Nat.reduceAdd, Nat.reduceSub, Int.reduceAdd, Int.reduceSub, Int.reduceToNat]) <;> omega) (laws_toOut x.out) [] (by simp only [go_sem]; repeat' first | rfl | constructor) (by rfl) (run_den 400 ?_)
  simp (disch := omega) only [go_sem, Nat.reduceEqDiff, Nat.reduceAdd, Nat.reduceSub, Int.reduceAdd, Int.reduceSub, Int.reduceToNat]
  refine den_call (by (try simp (disch := omega) only [go_sem, Nat.reduceEqDiff, Nat.reduceAdd, Nat.reduceSub, Int.reduceAdd, Int.reduceSub, Int.reduceToNat]) <;> omega) (laws_toPieces x.inp hl4) [some (4, none)] (by simp only [go_sem]; repeat' first | rfl | constructor) (by rfl) (run_den 400 ?_)
  simp (disch := omega) only [go_sem, Nat.reduceEqDiff, Nat.reduceAdd, Nat.reduceSub, Int.reduceAdd, Int.reduceSub, Int.reduceToNat]
  refine den_call (by (try simp (disch := omega) only [go_sem, Nat.reduceEqDiff, Nat.reduceAdd, Nat.reduceSub, Int.reduceAdd, Int.reduceSub, Int.reduceToNat]) <;> omega) (laws_toIntS x.done hl5) [some (5, none)] (by simp only [go_sem]; repeat' first | rfl | constructor) (by rfl) (run_den 400 ?_)
  simp (disch := omega) only [go_sem, Nat.reduceEqDiff, Nat.reduceAdd, Nat.reduceSub, Int.reduceAdd, Int.reduceSub, Int.reduceToNat]
  refine den_call (by (try simp (disch := omega) only [go_sem, Nat.reduceEqDiff, Nat.reduceAdd, Nat.reduceSub, Int.reduceAdd, Int.reduceSub, Int.reduceToNat]) <;> omega) (laws_toIntS x.over hl6) [some (6, none)] (by simp only [go_sem]; repeat' first | rfl | constructor) (by rfl) (run_den 400 ?_)
  simp (disch := omega) only [go_sem, Nat.reduceEqDiff, Nat.reduceAdd, Nat.reduceSub, Int.reduceAdd, Int.reduceSub, Int.reduceToNat]
  refine den_fin [some (0, none), some (1, none), some (2, none), some (3, none), some (4, none), some (5, none), some (6, none), some (10, none), some (11, none), some (12, none), some (13, none), some (14, none), some (15, none), some (16, none)] (by (try simp (disch := omega) only [go_sem, Nat.reduceEqDiff, Nat.reduceAdd, Nat.reduceSub, Int.reduceAdd, Int.reduceSub, Int.reduceToNat]) <;> omega) _ (by simp only [go_sem]; rfl) (by rfl) (by rfl) ?_
  simp (disch := omega) only [go_sem, Nat.reduceEqDiff, Nat.reduceAdd, Nat.reduceSub, Int.reduceAdd, Int.reduceSub, Int.reduceToNat]
set_option maxHeartbeats 4000000 in
theorem laws_eqEnd (x : EndD) (hl0 : x.own.length ≤ 4611686018427387904) (hl1 : x.far.length ≤ 4611686018427387904) (hl2 : x.subs.length ≤ 4611686018427387904) (hl3 : x.halfs.length ≤ 4611686018427387904) (hl4 : x.inp.list.length ≤ 4611686018427387904) (hl5 : x.done.length ≤ 4611686018427387904) (hl6 : x.over.length ≤ 4611686018427387904) : CallA Try.prog 34 [.ag (x.cs 0), .ag (x.cs 7)] (x.hp false ++ x.hp false) (.sc (.bo true)) (x.hp false ++ x.hp false) := by
  refine callA_of Try.func34 (by kernel_rfl) rfl fun E hE => run_den 400 ?_
  simp (disch := omega) only [Try.ntmps34, Try.results34, go_sem, Nat.reduceEqDiff, Nat.reduceAdd, Nat.reduceSub, Int.reduceAdd, Int.reduceSub, Int.reduceToNat]
  refine den_call (by (try simp (disch := omega) only [go_sem, Nat.reduceEqDiff, Nat.reduceAdd, Nat.reduceSub, Int.reduceAdd, Int.reduceSub, Int.reduceToNat]) <;> omega) (laws_eqPolicy x.policy) [] (by simp only [go_sem]; repeat' first | rfl | constructor) (by rfl) (run_den 400 ?_)
  simp (disch := omega) only [go_sem, Nat.reduceEqDiff, Nat.reduceAdd, Nat.reduceSub, Int.reduceAdd, Int.reduceSub, Int.reduceToNat]
  refine den_call (by (try simp (disch := omega) only [go_sem, Nat.reduceEqDiff, Nat.reduceAdd, Nat.reduceSub, Int.reduceAdd, Int.reduceSub, Int.reduceToNat]) <;> omega) (laws_eqAddrS x.own hl0) [some (0, none), some (7, none)] (by simp only [go_sem]; repeat' first | rfl | constructor) (by rfl) (run_den 400 ?_)
  simp (disch := omega) only [go_sem, Nat.reduceEqDiff, Nat.reduceAdd, Nat.reduceSub, Int.reduceAdd, Int.reduceSub, Int.reduceToNat]
  refine den_call (by (try simp (disch := omega) only [go_sem, Nat.reduceEqDiff, Nat.reduceAdd, Nat.reduceSub, Int.reduceAdd, Int.reduceSub, Int.reduceToNat]) <;> omega) (laws_eqAddrS x.far hl1) [some (1, none), some (8, none)] (by simp only [go_sem]; repeat' first | rfl | constructor) (by rfl) (run_den 400 ?_)
  simp (disch := omega) only [go_sem, Nat.reduceEqDiff, Nat.reduceAdd, Nat.reduceSub, Int.reduceAdd, Int.reduceSub, Int.reduceToNat]
  refine den_call (by (try simp (disch := omega) only [go_sem, Nat.reduceEqDiff, Nat.reduceAdd, Nat.reduceSub, Int.reduceAdd, Int.reduceSub, Int.reduceToNat]) <;> omega) (laws_eqSubS x.subs hl2) [some (2, none), some (9, none)] (by simp only [go_sem]; repeat' first | rfl | constructor) (by rfl) (run_den 400 ?_)
  simp (disch := omega) only [go_sem, Nat.reduceEqDiff, Nat.reduceAdd, Nat.reduceSub, Int.reduceAdd, Int.reduceSub, Int.reduceToNat]
  refine den_call (by (try simp (disch := omega) only [go_sem, Nat.reduceEqDiff, Nat.reduceAdd, Nat.reduceSub, Int.reduceAdd, Int.reduceSub, Int.reduceToNat]) <;> omega) (laws_eqHalfS x.halfs hl3) [some (3, none), some (10, none)] (by simp only [go_sem]; repeat' first | rfl | constructor) (by rfl) (run_den 400 ?_)
  simp (disch := omega) only [go_sem, Nat.reduceEqDiff, Nat.reduceAdd, Nat.reduceSub, Int.reduceAdd, Int.reduceSub, Int.reduceToNat]
  refine den_call (by (try simp (disch := omega) only [go_sem, Nat.reduceEqDiff, Nat.reduceAdd, Nat.reduceSub, Int.reduceAdd, Int.reduceSub, Int.reduceToNat]) <;> omega) (laws_eqBucket x.bucket) [] (by simp only [go_sem]; repeat' first | rfl | constructor) (by rfl) (run_den 400 ?_)
  simp (disch := omega) only [go_sem, Nat.reduceEqDiff, Nat.reduceAdd, Nat.reduceSub, Int.reduceAdd, Int.reduceSub, Int.reduceToNat]
  refine den_call (by (try simp (disch := omega) only [go_sem, Nat.reduceEqDiff, Nat.reduceAdd, Nat.reduceSub, Int.reduceAdd, Int.reduceSub, Int.reduceToNat]) <;> omega) (laws_eqOut x.out) [] (by simp only [go_sem]; repeat' first | rfl | constructor) (by rfl) (run_den 400 ?_)
  simp (disch := omega) only [go_sem, Nat.reduceEqDiff, Nat.reduceAdd, Nat.reduceSub, Int.reduceAdd, Int.reduceSub, Int.reduceToNat]
  refine den_call (by (try simp (disch := omega) only [go_sem, Nat.reduceEqDiff, Nat.reduceAdd, Nat.reduceSub, Int.reduceAdd, Int.reduceSub, Int.reduceToNat]) <;> omega) (laws_eqPieces x.inp hl4) [some (4, none), some (11, none)] (by simp only [go_sem]; repeat' first | rfl | constructor) (by rfl) (run_den 400 ?_)
  simp (disch := omega) only [go_sem, Nat.reduceEqDiff, Nat.reduceAdd, Nat.reduceSub, Int.reduceAdd, Int.reduceSub, Int.reduceToNat]
  refine den_call (by (try simp (disch := omega) only [go_sem, Nat.reduceEqDiff, Nat.reduceAdd, Nat.reduceSub, Int.reduceAdd, Int.reduceSub, Int.reduceToNat]) <;> omega) (laws_eqIntS x.done hl5) [some (5, none), some (12, none)] (by simp only [go_sem]; repeat' first | rfl | constructor) (by rfl) (run_den 400 ?_)
  simp (disch := omega) only [go_sem, Nat.reduceEqDiff, Nat.reduceAdd, Nat.reduceSub, Int.reduceAdd, Int.reduceSub, Int.reduceToNat]
  refine den_call (by (try simp (disch := omega) only [go_sem, Nat.reduceEqDiff, Nat.reduceAdd, Nat.reduceSub, Int.reduceAdd, Int.reduceSub, Int.reduceToNat]) <;> omega) (laws_eqIntS x.over hl6) [some (6, none), some (13, none)] (by simp only [go_sem]; repeat' first | rfl | constructor) (by rfl) (run_den 400 ?_)
  simp (disch := omega) only [go_sem, Nat.reduceEqDiff, Nat.reduceAdd, Nat.reduceSub, Int.reduceAdd, Int.reduceSub, Int.reduceToNat]
  refine den_fin [some (0, none), some (1, none), some (2, none), some (3, none), some (4, none), some (5, none), some (6, none), some (7, none), some (8, none), some (9, none), some (10, none), some (11, none), some (12, none), some (13, none)] (by (try simp (disch := omega) only [go_sem, Nat.reduceEqDiff, Nat.reduceAdd, Nat.reduceSub, Int.reduceAdd, Int.reduceSub, Int.reduceToNat]) <;> omega) _ (by simp only [go_sem]; rfl) (by rfl) (by rfl) ?_
  simp (disch := omega) only [go_sem, Nat.reduceEqDiff, Nat.reduceAdd, Nat.reduceSub, Int.reduceAdd, Int.reduceSub, Int.reduceToNat]
end
end Go.Proofs.Ytndkcflepjinaaa
