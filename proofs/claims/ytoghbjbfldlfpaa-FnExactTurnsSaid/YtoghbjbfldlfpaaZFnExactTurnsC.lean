/-
  Texts merged for this claim by shake.py: what its proof needs.
-/
import Derived.WalkKit
import Derived.ProofKit
import Derived.ShutString
import Derived.OpenShut
import Derived.ChangeOld
import Derived.Below
import Derived.Carry
import Derived.Tactics
import Derived.Laws.AppendOwn
import Derived.Laws.OwnMore
import Derived.Laws.Slices
import Derived.Laws.Small
import Derived.Laws.Strings
import Derived.KernelRfl
import Derived.Laws.MakeOwn
import Derived.Laws.BytesString
import Derived.Laws.BytesArg
import Derived.Laws.Build
import Derived.Laws.Concat
import Derived.Laws.StructEq
import Derived.Lib.ConvBytes
import Derived.Test.YtoghbjbfldlfpaaChecked
import Derived.Orders
import Derived.Laws.BitsLemmas
import Derived.JoinedOf
import Derived.Test.YtoghbjbfldlfpaaRows
import Derived.Test.YtoghbjbfldlfpaaZFnExactTurnsB
namespace Go.Proofs.Ytoghbjbfldlfpaa
section
open Go.RowKit
set_option linter.unusedVariables false
set_option linter.unusedSimpArgs false

/-- A step, in the world. -/
theorem stepN_wp {P : Program} {E : Entry} {r : Array Oper} {i : Nat} {s s1 : S} {β : Be} {a : Act} {w : World} {Q : Exit → Act → World → Prop} {K : Act → World → Prop} (h : StepN P r i s s1) (hs : Sim E β s a w) (hK : ∀ β' a' w', Sim E β' s1 a' w' → K a' w') : wpOp P r Q i K a w := by
  unfold wpOp
  unfold StepN at h
  split at h
  · rename_i hi
    subst h
    rw [hi]
    exact hK β a w hs
  · rename_i o ho
    rw [ho]
    dsimp only
    split at h
    · rename_i hg
      rw [if_pos (guard_R hs.sl hg)]
      refine .inl ?_
      unfold Oper.wp
      rcases h with ⟨x, hx, hc, rfl⟩ | ⟨y, args, at_, f, caps, avs, res, h', hop, hy, ha, ⟨⟨fn, hfn, hname, hbody⟩, hcall⟩, _, rfl⟩
      · obtain ⟨β', w', hst, hh, hx'⟩ := aop_sound hs.hp hs.sl hx hc
        rcases hx' with ⟨v, av, hrun, hv, hr⟩ | ⟨hrun, hv⟩
        · rw [hrun]
          rw [hv] at hK
          exact hK β' _ w' (sim_put hs hst hh o.dst hr)
        · rw [hrun]
          rw [hv] at hK
          exact hK β' _ w' (sim_putNone hs hst hh o.dst undef)
      · obtain ⟨cvs, hxe, hcl⟩ : AVR β (.cl f caps) (a.eval y) := ev_R hs.sl hy
        have hav := evs_R hs.sl ha
        have hvs : L2 (AVR β) (avs ++ scAll caps) (args.toList.map a.eval ++ cvs) := hav.append (scAll_R hcl)
        have hrun : (execOp a.eval o).run P w = .ok (.enter f (args.toList.map a.eval ++ cvs).toArray) w := by
          unfold execOp
          rw [hop]
          have e1 : args.map a.eval = (args.toList.map a.eval).toArray := by apply Array.ext'; simp
          have hname' : ¬ fn.name = "runtime.NumGoroutine" := by simpa using hname
          simp only [resolve, hxe, Deferred.ofValue, invoke, callFunc, Sem.run_bind, run_program, Sem.run_pure, Result.andThen_ok, hfn, e1]
          simp [hname', hbody]
        rw [hrun, Oper.upon_enter]
        refine (hcall β w _ hs.hp hvs).mono fun e w' ⟨β', v, he, hr, hh, hst⟩ => ?_
        subst he
        exact hK β' _ w' (sim_put hs hst hh o.dst hr)
    · rename_i hg
      rw [guard_R hs.sl hg]
      subst h
      exact hK β _ w (sim_put hs (StepR.refl β s.hp w hs.hp.len) hs.hp o.dst ⟨[], rfl, trivial⟩)
    · exact h.elim

def clo1 (T : List Nat) (o : Oper) : Nat := o.after.toList.foldl (fun m e => if Region.binds .any e then m ||| (1 <<< e.on) ||| T.getD e.on 0 else m) 0
def cloT : List Oper → List Nat → List Nat
  | [], T => T
  | o :: l, T => cloT l (T ++ [clo1 T o])
def clo (r : Array Oper) : List Nat := cloT r.toList []
/-- Each operation waits for earlier ones alone. -/
def backB (r : Array Oper) : Bool := (List.range r.size).all fun i => match r[i]? with
  | some o => o.after.toList.all fun e => !Region.binds .any e || decide (e.on < i)
  | none => true
theorem fold_bit (T : List Nat) (p : Nat) : ∀ (l : List Edge) (m : Nat), (l.foldl (fun m e => if Region.binds .any e then m ||| (1 <<< e.on) ||| T.getD e.on 0 else m) m).testBit p = true ↔
    m.testBit p = true ∨ ∃ e ∈ l, Region.binds .any e = true ∧ (e.on = p ∨ (T.getD e.on 0).testBit p = true)
  | [], m => by simp
  | e :: l, m => by
    rw [List.foldl_cons, fold_bit T p l]
    cases hb : Region.binds .any e
    · simp [hb]
    · simp only [if_true, Nat.testBit_or, Bool.or_eq_true, Nat.one_shiftLeft, Nat.testBit_two_pow, decide_eq_true_eq, List.mem_cons, exists_eq_or_imp, hb, true_and]
      constructor
      · rintro (((h | h) | h) | h)
        · exact .inl h
        · exact .inr (.inl (.inl h))
        · exact .inr (.inl (.inr h))
        · exact .inr (.inr h)
      · rintro (h | (h | h) | h)
        · exact .inl (.inl (.inl h))
        · exact .inl (.inl (.inr h))
        · exact .inl (.inr h)
        · exact .inr h
theorem cloT_old : ∀ (l : List Oper) (T : List Nat) (i : Nat), i < T.length → (cloT l T)[i]? = T[i]?
  | [], T, i, _ => rfl
  | o :: l, T, i, h => by
    rw [cloT, cloT_old l _ i (by simp; omega), List.getElem?_append_left h]
theorem cloT_new : ∀ (l : List Oper) (T : List Nat) (j : Nat) (o : Oper), l[j]? = some o → ∃ T', (cloT l T)[T.length + j]? = some (clo1 T' o) ∧ T'.length = T.length + j ∧ ∀ k, k < T.length + j → T'[k]? = (cloT l T)[k]?
  | [], T, j, o, h => by simp at h
  | o' :: l, T, 0, o, h => by
    simp at h
    subst h
    refine ⟨T, ?_, by simp, fun k hk => ?_⟩
    · rw [cloT, cloT_old l _ _ (by simp)]
      simp
    · rw [cloT, cloT_old l _ _ (by simp; omega), List.getElem?_append_left (by omega)]
  | o' :: l, T, j + 1, o, h => by
    obtain ⟨T', h1, h2, h3⟩ := cloT_new l (T ++ [clo1 T o']) j o (by simpa using h)
    simp only [List.length_append, List.length_cons, List.length_nil] at h1 h2 h3
    refine ⟨T', ?_, by omega, fun k hk => ?_⟩
    · rw [cloT, show T.length + (j + 1) = T.length + (0 + 1) + j from by omega]; exact h1
    · rw [cloT]; exact h3 k (by omega)
theorem clo_spec {r : Array Oper} {i : Nat} {o : Oper} (ho : r[i]? = some o) (p : Nat) : ((clo r).getD i 0).testBit p = true ↔ ∃ e ∈ o.after.toList, Region.binds .any e = true ∧ (e.on = p ∨ (e.on < i ∧ ((clo r).getD e.on 0).testBit p = true)) := by
  obtain ⟨T', h1, h2, h3⟩ := cloT_new r.toList [] i o (by simpa using ho)
  simp only [List.length_nil, Nat.zero_add] at h1 h2 h3
  have e1 : (clo r).getD i 0 = clo1 T' o := by unfold clo; rw [List.getD_eq_getElem?_getD, h1]; rfl
  rw [e1]
  unfold clo1
  rw [fold_bit]
  simp only [Nat.zero_testBit, Bool.false_eq_true, false_or]
  constructor
  · rintro ⟨e, he, hb, h⟩
    refine ⟨e, he, hb, h.imp id fun h => ?_⟩
    rcases Nat.lt_or_ge e.on i with hlt | hge
    · refine ⟨hlt, ?_⟩
      rw [List.getD_eq_getElem?_getD, h3 _ hlt] at h
      rw [List.getD_eq_getElem?_getD]
      exact h
    · rw [List.getD_eq_getElem?_getD, List.getElem?_eq_none (by omega)] at h
      simp at h
  · rintro ⟨e, he, hb, h⟩
    refine ⟨e, he, hb, h.imp id fun ⟨hlt, h⟩ => ?_⟩
    rw [List.getD_eq_getElem?_getD, h3 _ hlt]
    rw [List.getD_eq_getElem?_getD] at h
    exact h
/-- All that listed operations wait for is listed. -/
def Closed (r : Array Oper) (listed : Array Bool) : Prop := ∀ (i : Nat) (o : Oper), r[i]? = some o → listed.getD i false = true → ∀ e ∈ o.after.toList, Region.binds .any e = true → listed.getD e.on false = true
theorem clo_listed {r : Array Oper} {listed : Array Bool} (hc : Closed r listed) : ∀ (i : Nat) (o : Oper), r[i]? = some o → (∀ e ∈ o.after.toList, Region.binds .any e = true → listed.getD e.on false = true) → ∀ p, ((clo r).getD i 0).testBit p = true → listed.getD p false = true := by
  intro i
  induction i using Nat.strongRecOn with
  | _ i ih =>
    intro o ho ha p hp
    obtain ⟨e, he, hb, h⟩ := (clo_spec ho p).1 hp
    rcases h with rfl | ⟨hlt, h⟩
    · exact ha e he hb
    · have hl := ha e he hb
      cases hr : r[e.on]? with
      | none =>
        exfalso
        have hn : (clo r)[e.on]? = none := by
          rw [Array.getElem?_eq_none_iff] at hr
          have hlt2 := (Array.getElem?_eq_some_iff.1 ho).1
          omega
        rw [List.getD_eq_getElem?_getD, hn] at h
        simp at h
      | some oj => exact ih e.on hlt oj hr (hc e.on oj hr hl) p h

/-- p stands ahead of q. -/
def before : List Nat → Nat → Nat → Bool
  | [], p, q => decide (p < q)
  | i :: l, p, q => if i = p then true else if i = q then false else before l p q
theorem before_total {p q : Nat} (hne : p ≠ q) : ∀ {l : List Nat}, before l p q = true ∨ before l q p = true
  | [] => by simp only [before, decide_eq_true_eq]; omega
  | i :: l => by
    simp only [before]
    by_cases h1 : i = p
    · exact .inl (by rw [if_pos h1])
    · by_cases h2 : i = q
      · exact .inr (by rw [if_pos h2])
      · rw [if_neg h1, if_neg h2, if_neg h2, if_neg h1]
        exact before_total hne
/-- In this order, of any two the second waits for the first, or they may be swapped; and none waits for a later one. -/
def okP (P : Program) (r : Array Oper) (T : List Nat) (ex : List (Nat × Nat)) (p q : Nat) : Bool :=
  p != q && !(T.getD p 0).testBit q &&
  ((T.getD q 0).testBit p || ex.contains (p, q) || match r[p]?, r[q]? with
    | some x, some y => indepB P r x y || indepC P r x y
    | _, _ => false)
def okL (P : Program) (r : Array Oper) (T : List Nat) (ex : List (Nat × Nat)) : List Nat → Bool
  | [] => true
  | p :: l => l.all (okP P r T ex p) && okL P r T ex l
theorem okL_drop {P : Program} {r : Array Oper} {T : List Nat} {ex : List (Nat × Nat)} {i : Nat} : ∀ {l m : List Nat}, okL P r T ex (l ++ i :: m) = true → okL P r T ex (l ++ m) = true
  | [], m, h => by simp only [List.nil_append, okL, Bool.and_eq_true] at h ⊢; exact h.2
  | p :: l, m, h => by
    simp only [List.cons_append, okL, Bool.and_eq_true, List.all_eq_true] at h ⊢
    refine ⟨fun q hq => h.1 q ?_, okL_drop h.2⟩
    simp only [List.mem_append, List.mem_cons] at hq ⊢
    exact hq.imp id .inr
theorem okL_at {P : Program} {r : Array Oper} {T : List Nat} {ex : List (Nat × Nat)} {i p : Nat} : ∀ {l m : List Nat}, okL P r T ex (l ++ i :: m) = true → p ∈ l → okP P r T ex p i = true
  | [], m, _, h => by simp at h
  | q :: l, m, h, hp => by
    simp only [List.cons_append, okL, Bool.and_eq_true, List.all_eq_true] at h
    rcases List.mem_cons.1 hp with rfl | hp
    · exact h.1 i (by simp)
    · exact okL_at h.2 hp
theorem okL_head {P : Program} {r : Array Oper} {T : List Nat} {ex : List (Nat × Nat)} {i p : Nat} {l : List Nat} (h : okL P r T ex (i :: l) = true) (hp : p ∈ l) : okP P r T ex i p = true := by
  simp only [okL, Bool.and_eq_true, List.all_eq_true] at h
  exact h.1 p hp
theorem okL_nodup {P : Program} {r : Array Oper} {T : List Nat} {ex : List (Nat × Nat)} : ∀ {l : List Nat}, okL P r T ex l = true → l.Nodup
  | [], _ => List.nodup_nil
  | p :: l, h => by
    refine List.nodup_cons.2 ⟨fun hp => ?_, okL_nodup (by simp only [okL, Bool.and_eq_true] at h; exact h.2)⟩
    have := okL_head h hp
    simp [okP] at this
/-- An operation that may go first goes first. -/
theorem run_front {P : Program} {r : Array Oper} {i : Nat} : ∀ {l m : List Nat} {s s' : S}, (∀ p ∈ l, ∃ x y, r[p]? = some x ∧ r[i]? = some y ∧ (indepB P r x y || indepC P r x y) = true) → RunN P r (l ++ i :: m) s s' → RunN P r (i :: (l ++ m)) s s'
  | [], m, s, s', _, h => h
  | p :: l, m, s, s', hl, h => by
    obtain ⟨s1, h1, h2⟩ := h
    obtain ⟨s2, h3, h4⟩ := run_front (fun q hq => hl q (List.mem_cons_of_mem _ hq)) h2
    obtain ⟨x, y, hx, hy, hind⟩ := hl p (by simp)
    rcases (Bool.or_eq_true _ _).mp hind with hind | hind
    · obtain ⟨s1', h5, h6⟩ := swap hx hy hind h1 h3
      exact ⟨s1', h5, s2, h6, h4⟩
    · obtain ⟨s1', h5, h6⟩ := swapC hx hy hind h1 h3
      exact ⟨s1', h5, s2, h6, h4⟩
/-- A drawn order. -/
def Drawn (r : Array Oper) : Nat → Array Bool → List Nat → Prop
  | fuel, listed, [] => fuel = 0 ∨ Region.ready .any r listed = []
  | 0, _, _ :: _ => False
  | fuel + 1, listed, i :: τ => i ∈ Region.ready .any r listed ∧ Drawn r fuel (listed.setIfInBounds i true) τ
theorem drawn_go {r : Array Oper} : ∀ (fuel t : Nat) (listed : Array Bool), Drawn r fuel listed (Region.linearise.go .any r fuel t listed [])
  | 0, t, listed => by simp [Region.linearise.go, Drawn]
  | fuel + 1, t, listed => by
    simp only [Region.linearise.go]
    change Drawn r (fuel + 1) listed (match (Region.ready .any r listed)[t % (Region.ready .any r listed).length]? with
      | some i => Region.linearise.go .any r fuel (t / (Region.ready .any r listed).length) (listed.setIfInBounds i true) [i]
      | none => [].reverse)
    cases hi : (Region.ready .any r listed)[t % (Region.ready .any r listed).length]? with
    | none =>
      have hnil : Region.ready .any r listed = [] := by
        cases hr : Region.ready .any r listed with
        | nil => rfl
        | cons x xs =>
          rw [hr] at hi
          have hlt : t % (x :: xs).length < (x :: xs).length := Nat.mod_lt _ (by simp)
          simp at hi
          simp at hlt
          omega
      exact .inr hnil
    | some i =>
      simp only []
      rw [linearise_go_acc, List.reverse_singleton, List.singleton_append]
      exact ⟨List.mem_of_getElem? hi, drawn_go fuel _ _⟩
theorem ready_iff {r : Array Oper} {listed : Array Bool} {i : Nat} : i ∈ Region.ready .any r listed ↔ ∃ o, r[i]? = some o ∧ listed.getD i true = false ∧ ∀ e ∈ o.after.toList, Region.binds .any e = true → listed.getD e.on false = true := by
  unfold Region.ready
  simp only [List.mem_filter, List.mem_range, Bool.and_eq_true, Bool.not_eq_true']
  constructor
  · rintro ⟨hlt, h1, h2⟩
    refine ⟨r[i], Array.getElem?_eq_getElem hlt, h1, fun e he hb => ?_⟩
    rw [Array.getElem?_eq_getElem hlt] at h2
    simp only [Option.map_some, Option.getD_some, Array.all_eq_true_iff_forall_mem, Bool.or_eq_true, Bool.not_eq_true'] at h2
    rcases h2 e (by simpa using he) with h | h
    · rw [hb] at h; cases h
    · exact h
  · rintro ⟨o, ho, h1, h2⟩
    refine ⟨(Array.getElem?_eq_some_iff.1 ho).1, h1, ?_⟩
    rw [ho]
    simp only [Option.map_some, Option.getD_some, Array.all_eq_true_iff_forall_mem, Bool.or_eq_true, Bool.not_eq_true']
    intro e he
    cases hb : Region.binds .any e with
    | false => exact .inl rfl
    | true => exact .inr (h2 e (by simpa using he) hb)
theorem set_getD {l : Array Bool} {i j : Nat} {d : Bool} (hi : i < l.size) : (l.setIfInBounds i true).getD j d = if i = j then true else l.getD j d := by
  simp only [Array.getD_eq_getD_getElem?, Array.getElem?_setIfInBounds]
  by_cases h : i = j
  · subst h; simp [hi]
  · simp [h]
theorem back_lt {r : Array Oper} (h : backB r = true) {i : Nat} {o : Oper} (ho : r[i]? = some o) {e : Edge} (he : e ∈ o.after.toList) (hb : Region.binds .any e = true) : e.on < i := by
  unfold backB at h
  rw [List.all_eq_true] at h
  have := h i (List.mem_range.2 (Array.getElem?_eq_some_iff.1 ho).1)
  rw [ho] at this
  have := (List.all_eq_true.1 this) e he
  rw [hb] at this
  simpa using this
theorem drawn_nil {r : Array Oper} {fuel : Nat} {listed : Array Bool} (h : Drawn r fuel listed []) : fuel = 0 ∨ Region.ready .any r listed = [] := by
  cases fuel <;> exact h
theorem ops_of_run {P : Program} {E : Entry} {r : Array Oper} {Q : Exit → Act → World → Prop} {ex : List (Nat × Nat)} {s' : S} (hback : backB r = true) (hQ : ∀ β' a' w', Sim E β' s' a' w' → Q .normal a' w') :
    ∀ (τ : List Nat) (fuel : Nat) (listed : Array Bool) (σ : List Nat) (s : S) (β : Be) (a : Act) (w : World), Drawn r fuel listed τ → listed.size = r.size → σ.length ≤ fuel → (∀ i, i ∈ σ ↔ i < r.size ∧ listed.getD i true = false) → Closed r listed →
      okL P r (clo r) ex σ = true → (∀ p q, ex.contains (p, q) = true → p ∈ σ → q ∈ σ → before τ p q = true) → RunN P r σ s s' → Sim E β s a w → wpOps P r Q τ a w
  | [], fuel, listed, σ, s, β, a, w, hd, hsz, hf, hm, hc, hok, hx, hrun, hs => by
    have hnil : σ = [] := by
      rcases drawn_nil hd with rfl | hd
      · exact List.length_eq_zero_iff.1 (by omega)
      · cases σ with
        | nil => rfl
        | cons p l =>
          exfalso
          have hp := (hm p).1 (by simp)
          have : p ∈ Region.ready .any r listed := by
            refine ready_iff.2 ⟨r[p], Array.getElem?_eq_getElem hp.1, hp.2, fun e he hb => ?_⟩
            have hbit : ((clo r).getD p 0).testBit e.on = true := (clo_spec (Array.getElem?_eq_getElem hp.1) e.on).2 ⟨e, he, hb, .inl rfl⟩
            have hlt0 := back_lt hback (Array.getElem?_eq_getElem hp.1) he hb
            have hlt : e.on < r.size := Nat.lt_trans hlt0 hp.1
            cases hl : listed.getD e.on false with
            | true => rfl
            | false =>
              exfalso
              have hl' : listed.getD e.on true = false := by
                rw [Array.getD_eq_getD_getElem?, Array.getElem?_eq_getElem (by omega)] at hl ⊢
                exact hl
              have hmem : e.on ∈ p :: l := (hm e.on).2 ⟨hlt, hl'⟩
              rcases List.mem_cons.1 hmem with hep | hmem
              · omega
              · have := okL_head hok hmem
                simp only [okP, Bool.and_eq_true, Bool.not_eq_true'] at this
                rw [this.1.2] at hbit
                cases hbit
          rw [hd] at this
          simp at this
    subst hnil
    have : s' = s := hrun
    subst this
    exact hQ β a w hs
  | i :: τ, 0, listed, σ, s, β, a, w, hd, _, _, _, _, _, _, _, _ => hd.elim
  | i :: τ, fuel + 1, listed, σ, s, β, a, w, hd, hsz, hf, hm, hc, hok, hx, hrun, hs => by
    obtain ⟨hi, hd⟩ := hd
    obtain ⟨o, ho, h1, h2⟩ := ready_iff.1 hi
    have hil : i < r.size := (Array.getElem?_eq_some_iff.1 ho).1
    have hiσ : i ∈ σ := (hm i).2 ⟨hil, h1⟩
    obtain ⟨l, m, rfl⟩ := List.append_of_mem hiσ
    have hnd := okL_nodup hok
    have hfront : ∀ p ∈ l, ∃ x y, r[p]? = some x ∧ r[i]? = some y ∧ (indepB P r x y || indepC P r x y) = true := by
      intro p hp
      have hpl := (hm p).1 (by simp [hp])
      have h3 := okL_at hok hp
      have hpi : p ≠ i := by
        intro e
        subst e
        simp [okP] at h3
      simp only [okP, Bool.and_eq_true, Bool.or_eq_true] at h3
      rcases h3.2 with (h4 | h4) | h4
      · exfalso
        have := clo_listed hc i o ho h2 p h4
        have h5 := hpl.2
        rw [Array.getD_eq_getD_getElem?, Array.getElem?_eq_getElem (by omega)] at this h5
        simp only [Option.getD_some] at this h5
        rw [this] at h5
        cases h5
      · exfalso
        have := hx p i h4 (by simp [hp]) (by simp)
        simp [before, hpi, Ne.symm hpi] at this
      · split at h4
        · rename_i x y hx hy
          exact ⟨x, y, hx, hy, h4⟩
        · cases h4
    obtain ⟨s1, h3, h4⟩ := run_front hfront hrun
    have hset : ∀ (j : Nat) (d : Bool), (listed.setIfInBounds i true).getD j d = if i = j then true else listed.getD j d := fun j d => set_getD (by omega)
    rw [wpOps_cons]
    refine stepN_wp h3 hs fun β' a' w' hs' => ?_
    refine ops_of_run hback hQ τ fuel (listed.setIfInBounds i true) (l ++ m) s1 β' a' w' hd (by simpa using hsz) ?_ ?_ ?_ (okL_drop hok) ?_ h4 hs'
    · simp only [List.length_append, List.length_cons] at hf ⊢
      omega
    · intro j
      have hj := hm j
      rw [hset]
      have hd1 : i ∉ l ∧ i ∉ m := by
        rw [List.nodup_append] at hnd
        exact ⟨fun h => hnd.2.2 i h i (by simp) rfl, (List.nodup_cons.1 hnd.2.1).1⟩
      simp only [List.mem_append, List.mem_cons] at hj ⊢
      by_cases hij : i = j
      · subst hij
        simp [hd1.1, hd1.2]
      · rw [if_neg hij, ← hj]
        simp [Ne.symm hij]
    · intro j oj hj hl e he hb
      rw [hset] at hl ⊢
      by_cases hij : i = j
      · subst hij
        rw [hj] at ho
        cases ho
        split
        · rfl
        · exact h2 e he hb
      · rw [if_neg hij] at hl
        split
        · rfl
        · exact hc j oj hj hl e he hb
    · intro p q hpq hp hq
      have hd1 : i ∉ l ∧ i ∉ m := by
        rw [List.nodup_append] at hnd
        exact ⟨fun h => hnd.2.2 i h i (by simp) rfl, (List.nodup_cons.1 hnd.2.1).1⟩
      have hne : ∀ x ∈ l ++ m, i ≠ x := by
        intro x hx e
        subst e
        exact (List.mem_append.1 hx).elim hd1.1 hd1.2
      have hin : ∀ x ∈ l ++ m, x ∈ l ++ i :: m := by
        intro x hx
        simp only [List.mem_append, List.mem_cons] at hx ⊢
        exact hx.imp id .inr
      have := hx p q hpq (hin p hp) (hin q hq)
      simpa [before, hne p hp, hne q hq] using this
/-- The ways to order pairs. -/
def choices : List (Nat × Nat) → List (List (Nat × Nat))
  | [] => [[]]
  | (a, b) :: U => (choices U).flatMap fun l => [(a, b) :: l, (b, a) :: l]
theorem choice_of (τ : List Nat) : ∀ {U : List (Nat × Nat)}, (∀ u ∈ U, u.1 ≠ u.2) → ∃ ex ∈ choices U, ∀ p q, ex.contains (p, q) = true → before τ p q = true
  | [], _ => ⟨[], by simp [choices], fun p q h => by simp at h⟩
  | (a, b) :: U, h => by
    obtain ⟨ex, h1, h2⟩ := choice_of τ (U := U) fun u hu => h u (by simp [hu])
    have hne : a ≠ b := h (a, b) (by simp)
    rcases before_total hne (l := τ) with h3 | h3
    · refine ⟨(a, b) :: ex, List.mem_flatMap.2 ⟨ex, h1, by simp⟩, fun p q hpq => ?_⟩
      simp only [List.contains_cons, Bool.or_eq_true, beq_iff_eq, Prod.mk.injEq] at hpq
      rcases hpq with ⟨rfl, rfl⟩ | hpq
      · exact h3
      · exact h2 p q hpq
    · refine ⟨(b, a) :: ex, List.mem_flatMap.2 ⟨ex, h1, by simp⟩, fun p q hpq => ?_⟩
      simp only [List.contains_cons, Bool.or_eq_true, beq_iff_eq, Prod.mk.injEq] at hpq
      rcases hpq with ⟨rfl, rfl⟩ | hpq
      · exact h3
      · exact h2 p q hpq
def coverB (P : Program) (r : Array Oper) (U : List (Nat × Nat)) (os : List (List Nat)) : Bool :=
  backB r && U.all (fun u => u.1 != u.2) && os.all (fun σ => σ.length == r.size && (List.range r.size).all σ.contains && σ.all fun i => decide (i < r.size)) &&
  (let T := clo r; (choices U).all fun ex => os.any fun σ => okL P r T ex σ)
theorem wp_drawn {P : Program} {E : Entry} {id : Nat} {r : Array Oper} {U : List (Nat × Nat)} {os : List (List Nat)} (hP : P.follows .mixedOrders = true) (hcov : coverB P r U os = true) {s : S} {K : S → Prop}
    (h : ∀ σ ∈ os, ∃ s', RunN P r σ s s' ∧ ∀ β a w, Sim E β s' a w → ∃ β' t, K t ∧ Sim E β' t a w) : Den P E (.region id r true) s fun e s' => e = .normal ∧ K s' := by
  intro β a w hs Q hQ
  refine wp_region_draw fun t => ?_
  simp only [Region.schedule, hP, Bool.true_or, if_true]
  simp only [coverB, Bool.and_eq_true] at hcov
  obtain ⟨⟨⟨hback, hU⟩, hperm⟩, hch⟩ := hcov
  have hd := drawn_go (r := r) r.size t (Array.replicate r.size false)
  obtain ⟨ex, hex, hbef⟩ := choice_of (Region.linearise .any r t) (U := U) fun u hu => by
    have := List.all_eq_true.1 hU u hu
    simpa using this
  obtain ⟨σ, hσ, hok⟩ := List.any_eq_true.1 (List.all_eq_true.1 hch ex hex)
  have hp := List.all_eq_true.1 hperm σ hσ
  simp only [Bool.and_eq_true, beq_iff_eq, List.all_eq_true, List.mem_range, decide_eq_true_eq] at hp
  obtain ⟨⟨hlen, hall⟩, hlt⟩ := hp
  obtain ⟨s', hrun, hK⟩ := h σ hσ
  have hs2 : Sim E β s a { w with drawn := w.drawn + 1 } := ⟨hs.dfr, hs.sl, ⟨hs.hp.len, hs.hp.ob, hs.hp.flat, hs.hp.apart⟩, hs.ent, ⟨hs.st.le, hs.st.os, hs.st.tape, hs.st.output, hs.st.size, hs.st.block, hs.st.len, hs.st.old, hs.st.fresh⟩⟩
  refine ops_of_run hback (fun β' a' w' hs' => let ⟨β2, t2, hk2, hs2⟩ := hK β' a' w' hs'; hQ .normal t2 β2 a' w' ⟨rfl, hk2⟩ hs2) (Region.linearise .any r t) r.size _ σ s β a _ hd (by simp) (by omega) (fun i => ?_) (fun i o ho hl => ?_) hok (fun p q hpq _ _ => hbef p q hpq) hrun hs2
  · constructor
    · intro hi
      refine ⟨hlt i hi, ?_⟩
      simp [Array.getD_eq_getD_getElem?, hlt i hi]
    · rintro ⟨hi, _⟩
      simpa using hall i hi
  · exfalso
    simp only [Array.getD_eq_getD_getElem?, Array.getElem?_replicate] at hl
    split at hl <;> cases hl

inductive StD where
  | go (l : List Nat) (s : S) (c : Prop)
  | call (f : Nat) (args : List AV) (d : Option Tmp) (l : List Nat) (s : S) (c : Prop)
  | fin (s : S) (c : Prop)
  | bad
def stepOpD (P : Program) (o : Oper) (l : List Nat) (s : S) (c : Prop) : StD :=
  match o.op with
  | .call ⟨.value x, args, _⟩ => match s.ev x, s.evs args.toList with
    | some (.cl f caps), some avs => .call f (avs ++ scAll caps) o.dst l s c
    | _, _ => .bad
  | op => match aop P s o.type op with
    | some ⟨v, h, d⟩ => .go l (s.put o.dst v h) (c ∧ d)
    | none => .bad
def stepD (P : Program) (r : Array Oper) : List Nat → S → Prop → StD
  | [], s, c => .fin s c
  | i :: l, s, c => match r[i]? with
    | some o => match guardOf r s o with
      | some b => match b with
        | true => stepOpD P o l s c
        | false => .go l (s.put o.dst (some (.tu [])) s.hp) c
      | none => .bad
    | none => .bad
def runD (P : Program) (r : Array Oper) : Nat → StD → StD
  | 0, x => x
  | n + 1, .go l s c => runD P r n (stepD P r l s c)
  | _ + 1, .call f a d l s c => .call f a d l s c
  | _ + 1, .fin s c => .fin s c
  | _ + 1, .bad => .bad
def denD (P : Program) (r : Array Oper) (G : S → Prop) : StD → Prop
  | .go l s c => c ∧ ∃ s', RunN P r l s s' ∧ G s'
  | .call f args d l s c => c ∧ ∃ res h', CallA P f args s.hp res h' ∧ Hp.ext s.hp h' ∧ ∃ s', RunN P r l (s.put d (some res) h') s' ∧ G s'
  | .fin s c => c ∧ G s
  | .bad => False
theorem stepD_den {P : Program} {r : Array Oper} {G : S → Prop} {l : List Nat} {s : S} {c : Prop} (h : denD P r G (stepD P r l s c)) : denD P r G (.go l s c) := by
  cases l with
  | nil => exact ⟨h.1, s, rfl, h.2⟩
  | cons i l =>
    simp only [stepD] at h
    split at h
    · rename_i o ho
      split at h
      · rename_i b hg
        cases b with
        | true =>
          unfold stepOpD at h
          dsimp only at h
          split at h
          · rename_i x args at_ hop
            split at h
            · rename_i f caps avs hx ha
              obtain ⟨hc, res, h', hcall, hext, s', hrun, hG⟩ := h
              refine ⟨hc, s', ⟨_, ?_, hrun⟩, hG⟩
              unfold StepN
              rw [ho]
              dsimp only
              rw [hg]
              exact .inr ⟨x, args, at_, f, caps, avs, res, h', hop, hx, ha, hcall, hext, rfl⟩
            · exact h.elim
          · split at h
            · rename_i v hp d hx
              obtain ⟨⟨hc, hd⟩, s', hrun, hG⟩ := h
              refine ⟨hc, s', ⟨_, ?_, hrun⟩, hG⟩
              unfold StepN
              rw [ho]
              dsimp only
              rw [hg]
              exact .inl ⟨_, hx, hd, rfl⟩
            · exact h.elim
        | false =>
          obtain ⟨hc, s', hrun, hG⟩ := h
          refine ⟨hc, s', ⟨_, ?_, hrun⟩, hG⟩
          unfold StepN
          rw [ho]
          dsimp only
          rw [hg]
      · exact h.elim
    · exact h.elim
theorem runD_den {P : Program} {r : Array Oper} {G : S → Prop} : ∀ (n : Nat) {x : StD}, denD P r G (runD P r n x) → denD P r G x
  | 0, x, h => h
  | n + 1, .go l s c, h => stepD_den (runD_den n h)
  | n + 1, .call .., h => h
  | n + 1, .fin .., h => h
  | n + 1, .bad, h => h
/-- No object of this heap may be turned. -/
def noOwn : Hp → Bool
  | [] => true
  | some ob :: h => !ob.own && noOwn h
  | none :: h => noOwn h
theorem noOwn_get : ∀ {h : Hp} {i : Nat} {t : AObj}, noOwn h = true → h[i]? = some (some t) → t.own = false
  | [], i, t, _, h => by simp at h
  | some ob :: l, 0, t, hn, h => by
    simp at h
    subst h
    simp [noOwn] at hn
    exact hn.1
  | none :: l, 0, t, hn, h => by simp at h
  | some ob :: l, i + 1, t, hn, h => noOwn_get (h := l) (by simp [noOwn] at hn; exact hn.2) (by simpa using h)
  | none :: l, i + 1, t, hn, h => noOwn_get (h := l) (by simpa [noOwn] using hn) (by simpa using h)
theorem den_callD {P : Program} {r : Array Oper} {G : S → Prop} {f : Nat} {avs : List AV} {d : Option Tmp} {l : List Nat} {s : S} {c : Prop} {args0 : List AV} {h0 h0' : Hp} {res0 : AV} (hc : c) (ct : CallA P f args0 h0 res0 h0') (ρ : Rho)
    (hm : avsM ρ args0 avs ∧ hpM ρ s.hp ρ h0) (hsep : sepB ρ h0 = true) (hno : noOwn h0 = true) (h : denD P r G (.go l (s.put d (some (renAV ρ s.hp.length res0)) (s.hp ++ renHp ρ s.hp.length (h0'.drop h0.length))) True)) : denD P r G (.call f avs d l s c) := by
  have hu : ∀ (ρ' : Rho) (h h' s' : Hp), (∀ (i : Nat) (t : AObj), h[i]? = some (some t) → t.own = false) → updH ρ s.hp.length ρ' h h' s' = s' := by
    intro ρ'
    induction ρ' with
    | nil => intro h h' s' _; simp [updH]
    | cons x ρ' ih =>
      intro h h' s' hn
      cases h with
      | nil => cases x <;> simp [updH]
      | cons y h =>
        have hn' : ∀ (i : Nat) (t : AObj), h[i]? = some (some t) → t.own = false := fun i t ht => hn (i + 1) t (by simpa using ht)
        cases h' with
        | nil => cases x <;> cases y <;> simp [updH]
        | cons z h' =>
          cases x with
          | none => cases y <;> simpa [updH] using ih h h' s' hn'
          | some x =>
            cases y with
            | none => simpa [updH] using ih h h' s' hn'
            | some y =>
              obtain ⟨n, e⟩ := x
              have ho := hn 0 y (by simp)
              simpa [updH, ho] using ih h h' s' hn'
  have hcall : hpCall ρ h0 h0' s.hp = s.hp ++ renHp ρ s.hp.length (h0'.drop h0.length) := by
    unfold hpCall
    rw [hu ρ h0 h0' s.hp fun i t ht => noOwn_get hno ht]
  obtain ⟨_, s', hrun, hG⟩ := h
  refine ⟨hc, _, _, callA_at ct ρ hm.1 hm.2 hsep, ?_, s', by rw [hcall]; exact hrun, hG⟩
  rw [hcall]
  exact ext_append _ _
def allDn (f : List Nat → Prop) : List (List Nat) → Prop
  | [] => True
  | [σ] => f σ
  | σ :: l => f σ ∧ allDn f l
theorem allDn_mem {f : List Nat → Prop} : ∀ {l : List (List Nat)}, allDn f l → ∀ σ ∈ l, f σ
  | [σ], h, _, hm => by simp at hm; subst hm; exact h
  | σ :: τ :: l, h, x, hm => by
    rcases List.mem_cons.1 hm with rfl | hm
    · exact h.1
    · exact allDn_mem h.2 x hm
/-- A region that draws: run it in the given orders. -/
theorem den_draw {P : Program} {E : Entry} {F : S → Prop} {id : Nat} {r : Array Oper} {k : List Item} {s : S} {c : Prop} (U : List (Nat × Nat)) (os : List (List Nat)) (hP : P.follows .mixedOrders = true) (hc : c) (hcov : coverB P r U os = true)
    (h : allDn (fun σ => denD P r (fun s' => den P E F (.go k s' True)) (.go σ s True)) os) : den P E F (.draw id r k s c) := by
  refine ⟨hc, den_mono (wp_drawn hP hcov (K := fun s' => den P E F (.go k s' True)) fun σ hσ => let ⟨s', h1, h2⟩ := (allDn_mem h σ hσ).2; ⟨s', h1, fun β a w hs => ⟨β, s', h2, hs⟩⟩) fun e s' hk => ?_⟩
  obtain ⟨rfl, hk⟩ := hk
  exact hk.2
theorem den_draw1 {P : Program} {E : Entry} {F : S → Prop} {id : Nat} {r : Array Oper} {k : List Item} {s : S} {c : Prop} (σ : List Nat) (hP : P.follows .mixedOrders = true) (hc : c) (hcov : coverB P r [] [σ] = true)
    (h : denD P r (fun s' => den P E F (.go k s' True)) (.go σ s True)) : den P E F (.draw id r k s c) :=
  den_draw [] [σ] hP hc hcov h
attribute [go_sem] runD stepD stepOpD allDn
end
section
open Go.RowKit
set_option linter.unusedVariables false

theorem w64 {n : Int} (h : -9223372036854775808 ≤ n ∧ n ≤ 9223372036854775807) : IntKind.i64.wrap n = n := by
  rw [IntKind.wrap_i64]; omega
theorem w8 {n : Int} (h : 0 ≤ n ∧ n ≤ 255) : IntKind.u8.wrap n = n := by
  rw [IntKind.wrap_u8]; omega
theorem ints_get {l : List Int} {k : Nat} (h : k < l.length) : (l.map intC)[k]? = some [.int .i64 l[k]] := by simp [intC, h]
theorem cast_add (a b : Nat) : ((a + b : Nat) : Int) = (a : Int) + (b : Int) := Int.natCast_add a b
theorem cast_num (n : Nat) : ((OfNat.ofNat n : Nat) : Int) = OfNat.ofNat n := rfl
theorem cast_one : ((1 : Nat) : Int) = 1 := rfl
theorem cast_zero : ((0 : Nat) : Int) = 0 := rfl
theorem take_len_map {α β : Type} (f : α → β) (l : List α) : List.take l.length (List.map f l) = List.map f l := by
  rw [List.take_of_length_le (by simp)]
theorem ez_1 : ((1 : Nat) = 0) = False := eq_false (by decide)
theorem ez_2 : ((2 : Nat) = 0) = False := eq_false (by decide)
theorem ez_3 : ((3 : Nat) = 0) = False := eq_false (by decide)
theorem ez_4 : ((4 : Nat) = 0) = False := eq_false (by decide)
theorem ez_5 : ((5 : Nat) = 0) = False := eq_false (by decide)
theorem ez_6 : ((6 : Nat) = 0) = False := eq_false (by decide)
theorem ez_7 : ((7 : Nat) = 0) = False := eq_false (by decide)
theorem ez_8 : ((8 : Nat) = 0) = False := eq_false (by decide)
theorem ez_9 : ((9 : Nat) = 0) = False := eq_false (by decide)
theorem ez_10 : ((10 : Nat) = 0) = False := eq_false (by decide)
theorem ez_11 : ((11 : Nat) = 0) = False := eq_false (by decide)
theorem ez_12 : ((12 : Nat) = 0) = False := eq_false (by decide)
theorem ez_13 : ((13 : Nat) = 0) = False := eq_false (by decide)
theorem ez_14 : ((14 : Nat) = 0) = False := eq_false (by decide)
theorem ez_15 : ((15 : Nat) = 0) = False := eq_false (by decide)
theorem ez_16 : ((16 : Nat) = 0) = False := eq_false (by decide)
theorem ez_17 : ((17 : Nat) = 0) = False := eq_false (by decide)
theorem ez_18 : ((18 : Nat) = 0) = False := eq_false (by decide)
theorem ez_19 : ((19 : Nat) = 0) = False := eq_false (by decide)
theorem ez_20 : ((20 : Nat) = 0) = False := eq_false (by decide)
theorem ez_21 : ((21 : Nat) = 0) = False := eq_false (by decide)
theorem ez_22 : ((22 : Nat) = 0) = False := eq_false (by decide)
theorem ez_23 : ((23 : Nat) = 0) = False := eq_false (by decide)
theorem ez_24 : ((24 : Nat) = 0) = False := eq_false (by decide)
theorem ez_25 : ((25 : Nat) = 0) = False := eq_false (by decide)
theorem ez_26 : ((26 : Nat) = 0) = False := eq_false (by decide)
theorem ez_27 : ((27 : Nat) = 0) = False := eq_false (by decide)
theorem ez_28 : ((28 : Nat) = 0) = False := eq_false (by decide)
theorem ez_29 : ((29 : Nat) = 0) = False := eq_false (by decide)
theorem ez_30 : ((30 : Nat) = 0) = False := eq_false (by decide)
theorem ez_31 : ((31 : Nat) = 0) = False := eq_false (by decide)
theorem ez_32 : ((32 : Nat) = 0) = False := eq_false (by decide)
theorem ez_33 : ((33 : Nat) = 0) = False := eq_false (by decide)
theorem ez_34 : ((34 : Nat) = 0) = False := eq_false (by decide)
theorem ez_35 : ((35 : Nat) = 0) = False := eq_false (by decide)
theorem ez_36 : ((36 : Nat) = 0) = False := eq_false (by decide)
theorem ez_37 : ((37 : Nat) = 0) = False := eq_false (by decide)
theorem ez_38 : ((38 : Nat) = 0) = False := eq_false (by decide)
theorem ez_39 : ((39 : Nat) = 0) = False := eq_false (by decide)
attribute [go_sem] ez_1 ez_2 ez_3 ez_4 ez_5 ez_6 ez_7 ez_8 ez_9 ez_10 ez_11 ez_12 ez_13 ez_14 ez_15 ez_16 ez_17 ez_18 ez_19 ez_20 ez_21 ez_22 ez_23 ez_24 ez_25 ez_26 ez_27 ez_28 ez_29 ez_30 ez_31 ez_32 ez_33 ez_34 ez_35 ez_36 ez_37 ez_38 ez_39 if_true if_false
attribute [go_sem] ne_eq not_false_eq_true Nat.le_refl take_len_map cast_add cast_num cast_one cast_zero
attribute [go_sem] Bool.false_eq_true false_implies imp_self and_true true_and Bool.false_and Bool.true_and Bool.and_true Bool.and_false
theorem byteSc_byteC (b : UInt8) : byteSc (byteC b) = b := by simp [byteC, byteSc]
theorem map_byteSc (l : List UInt8) : List.map byteSc (List.map byteC l) = l := by
  rw [List.map_map]
  have : byteSc ∘ byteC = id := funext fun b => byteSc_byteC b
  rw [this, List.map_id]
theorem take_1add {α : Type} (n : Nat) (a : α) (l : List α) : List.take (1 + n) (a :: l) = a :: List.take n l := by
  rw [Nat.add_comm]; rfl
theorem drop_1add {α : Type} (n : Nat) (a : α) (l : List α) : List.drop (1 + n) (a :: l) = List.drop n l := by
  rw [Nat.add_comm]; rfl
attribute [go_sem] byteSc_byteC map_byteSc take_1add drop_1add
theorem isByte_byteC (b : UInt8) : isByte (byteC b) = true := by
  rfl
theorem all_byteC (l : List UInt8) : (∀ c, c ∈ List.map byteC l → isByte c = true) = True := by
  refine eq_true fun c hc => ?_
  obtain ⟨b, _, rfl⟩ := List.mem_map.1 hc
  exact isByte_byteC b
theorem getD_at' {α : Type} {l : List α} {k : Nat} (d : α) (h : k < l.length) : l.getD k d = l[k] := by
  rw [List.getD_eq_getElem?_getD, List.getElem?_eq_getElem h]; rfl
theorem ntmod_2 (n : Nat) : (n : Int).tmod 2 = ((n % 2 : Nat) : Int) := by
  rw [Int.tmod_eq_emod_of_nonneg (by omega)]; omega
theorem ntdiv_2 (n : Nat) : (n : Int).tdiv 2 = ((n / 2 : Nat) : Int) := by
  rw [Int.tdiv_eq_ediv_of_nonneg (by omega)]; omega
attribute [go_sem] ntmod_2 ntdiv_2
theorem ntmod_3 (n : Nat) : (n : Int).tmod 3 = ((n % 3 : Nat) : Int) := by
  rw [Int.tmod_eq_emod_of_nonneg (by omega)]; omega
theorem ntdiv_3 (n : Nat) : (n : Int).tdiv 3 = ((n / 3 : Nat) : Int) := by
  rw [Int.tdiv_eq_ediv_of_nonneg (by omega)]; omega
attribute [go_sem] ntmod_3 ntdiv_3
theorem ntmod_4 (n : Nat) : (n : Int).tmod 4 = ((n % 4 : Nat) : Int) := by
  rw [Int.tmod_eq_emod_of_nonneg (by omega)]; omega
theorem ntdiv_4 (n : Nat) : (n : Int).tdiv 4 = ((n / 4 : Nat) : Int) := by
  rw [Int.tdiv_eq_ediv_of_nonneg (by omega)]; omega
attribute [go_sem] ntmod_4 ntdiv_4
theorem ntmod_5 (n : Nat) : (n : Int).tmod 5 = ((n % 5 : Nat) : Int) := by
  rw [Int.tmod_eq_emod_of_nonneg (by omega)]; omega
theorem ntdiv_5 (n : Nat) : (n : Int).tdiv 5 = ((n / 5 : Nat) : Int) := by
  rw [Int.tdiv_eq_ediv_of_nonneg (by omega)]; omega
attribute [go_sem] ntmod_5 ntdiv_5
theorem ntmod_6 (n : Nat) : (n : Int).tmod 6 = ((n % 6 : Nat) : Int) := by
  rw [Int.tmod_eq_emod_of_nonneg (by omega)]; omega
theorem ntdiv_6 (n : Nat) : (n : Int).tdiv 6 = ((n / 6 : Nat) : Int) := by
  rw [Int.tdiv_eq_ediv_of_nonneg (by omega)]; omega
attribute [go_sem] ntmod_6 ntdiv_6
theorem ntmod_8 (n : Nat) : (n : Int).tmod 8 = ((n % 8 : Nat) : Int) := by
  rw [Int.tmod_eq_emod_of_nonneg (by omega)]; omega
theorem ntdiv_8 (n : Nat) : (n : Int).tdiv 8 = ((n / 8 : Nat) : Int) := by
  rw [Int.tdiv_eq_ediv_of_nonneg (by omega)]; omega
attribute [go_sem] ntmod_8 ntdiv_8
theorem ntmod_10 (n : Nat) : (n : Int).tmod 10 = ((n % 10 : Nat) : Int) := by
  rw [Int.tmod_eq_emod_of_nonneg (by omega)]; omega
theorem ntdiv_10 (n : Nat) : (n : Int).tdiv 10 = ((n / 10 : Nat) : Int) := by
  rw [Int.tdiv_eq_ediv_of_nonneg (by omega)]; omega
attribute [go_sem] ntmod_10 ntdiv_10
theorem ntmod_16 (n : Nat) : (n : Int).tmod 16 = ((n % 16 : Nat) : Int) := by
  rw [Int.tmod_eq_emod_of_nonneg (by omega)]; omega
theorem ntdiv_16 (n : Nat) : (n : Int).tdiv 16 = ((n / 16 : Nat) : Int) := by
  rw [Int.tdiv_eq_ediv_of_nonneg (by omega)]; omega
attribute [go_sem] ntmod_16 ntdiv_16
theorem ntmod_32 (n : Nat) : (n : Int).tmod 32 = ((n % 32 : Nat) : Int) := by
  rw [Int.tmod_eq_emod_of_nonneg (by omega)]; omega
theorem ntdiv_32 (n : Nat) : (n : Int).tdiv 32 = ((n / 32 : Nat) : Int) := by
  rw [Int.tdiv_eq_ediv_of_nonneg (by omega)]; omega
attribute [go_sem] ntmod_32 ntdiv_32
theorem toNat_addz {k : Nat} {z : Int} (h : 0 ≤ z) : ((k : Int) + z).toNat = k + z.toNat := by omega
def strC (s : List UInt8) : List Sc := [.st s]
theorem strs_get {l : List (List UInt8)} {k : Nat} (h : k < l.length) : (l.map strC)[k]? = some [.st l[k]] := by simp [strC, h]
theorem getD_u8 {l : List UInt8} {k : Nat} (h : k < l.length) : l.getD k 0 = l[k] := getD_at' 0 h
attribute [go_sem] strC intC
theorem dec_t {a b : Int} (h : a < b) : decide (a < b) = true := decide_eq_true h
theorem dec_f {a b : Int} (h : ¬ a < b) : decide (a < b) = false := decide_eq_false h
theorem dle_t {a b : Int} (h : a ≤ b) : decide (a ≤ b) = true := decide_eq_true h
theorem dle_f {a b : Int} (h : ¬ a ≤ b) : decide (a ≤ b) = false := decide_eq_false h
theorem ieq_t {a b : Int} (h : a = b) : (a == b) = true := beq_iff_eq.2 h
theorem ieq_f {a b : Int} (h : ¬ a = b) : (a == b) = false := beq_eq_false_iff_ne.2 h
theorem ine_t {a b : Int} (h : ¬ a = b) : (a != b) = true := bne_iff_ne.2 h
theorem ine_f {a b : Int} (h : a = b) : (a != b) = false := bne_eq_false_iff_eq.2 h
attribute [go_sem] w64 w8 toNat_addz getD_u8 map_get dec_t dec_f dle_t dle_f ieq_t ieq_f ine_t ine_f List.not_mem_nil implies_true or_imp forall_and forall_eq isByte_byteC all_byteC List.length_append
end
section
set_option linter.unusedVariables false
def decGo (n : Nat) (acc : List UInt8) : List UInt8 :=
  if h : n < 10 then UInt8.ofNat (48 + n) :: acc else decGo (n / 10) (UInt8.ofNat (48 + n % 10) :: acc)
termination_by n
decreasing_by omega
theorem decGo_lt (n : Nat) (acc : List UInt8) : acc.length < (decGo n acc).length := by
  induction n using Nat.strongRecOn generalizing acc with
  | _ n ih =>
    rw [decGo]
    split
    · simp
    · have := ih (n / 10) (by omega) (UInt8.ofNat (48 + n % 10) :: acc)
      simp only [List.length_cons] at this
      omega
theorem decGo_le (k : Nat) : ∀ (n : Nat) (acc : List UInt8), n < 10 ^ (k + 1) → (decGo n acc).length ≤ acc.length + (k + 1) := by
  induction k with
  | zero =>
    intro n acc h
    rw [decGo, dif_pos (by omega)]
    simp
  | succ k ih =>
    intro n acc h
    rw [decGo]
    split
    · simp
    · have := ih (n / 10) (UInt8.ofNat (48 + n % 10) :: acc) (by rw [Nat.pow_succ] at h; omega)
      simp only [List.length_cons] at this
      omega
theorem decGo_20 {n : Int} (h : I64 n) : (decGo n.natAbs []).length ≤ 20 := by
  have h' : -9223372036854775808 ≤ n ∧ n ≤ 9223372036854775807 := h
  have := decGo_le 19 n.natAbs [] (by omega)
  simpa using this
def isN (n : Int) : Bool := decide (0 ≤ n) && decide (n ≤ 1000000000)
def inR (n a b : Int) : Bool := decide (a ≤ n) && decide (n ≤ b)
def polOk (p : PolicyD) : Bool := if p.kind = 2 then inR p.many 1 8 else (p.kind == 1 || p.kind == 3) && p.many == 0
end
section
open Go.ChangeShapes Go.WideShapes Go.ChangeAt Go.RowKit
set_option linter.unusedVariables false

structure PiecesD where
  read : Int
  ready : List UInt8
  list : List PieceD
deriving DecidableEq, Inhabited
/-- The cells, the slices being objects o, o+1 and so on. -/
def PiecesD.cs (x : PiecesD) (o : Nat) : List Sc := [.int .i64 x.read, .st x.ready, .sl (o + 0) 0 x.list.length]
def PiecesD.hp (x : PiecesD) (own : Bool) : Hp := [some ⟨x.list.map PieceD.cs, 2, 231, own, true⟩]
/-- As they come in. -/
def PiecesD.hpL (x : PiecesD) : Hp := [some ⟨x.list.map PieceD.cs, 2, 229, false, true⟩]
def PiecesD.wf (x : PiecesD) : Prop := I64 x.read ∧ x.ready.length ≤ maxLen ∧ (∀ y ∈ x.list, PieceD.wf y) ∧ x.list.length ≤ maxLen
def PiecesD.ls : List L1 := [.one .int, .one .str, .sl [.int, .str]]
theorem PiecesD.conv {w : World} {cs : List Value} (h : See1s w PiecesD.ls cs) : ∃ (x : PiecesD) (β : Be), β.length = 1 ∧ x.wf ∧ (∀ β1 β2 : Be, L2 (ScR (β1 ++ (β ++ β2))) (x.cs β1.length) cs) ∧ (∀ β0 : Be, RoL β0 w β x.hpL) := by
  obtain ⟨_, _, e, ⟨v0, rfl, wv0⟩, h⟩ := h; subst e
  obtain ⟨_, _, e, ⟨v1, rfl, wv1⟩, h⟩ := h; subst e
  obtain ⟨_, _, e, s2h, h⟩ := h; subst e
  obtain rfl := h
  obtain ⟨s2, ps2, s2i, s2l, s2w⟩ := see_slx PieceD.cs [.int, .str] PieceD.wf PieceD.flat (fun _ h => PieceD.conv h) s2h
  refine ⟨⟨v0, v1.data.toList, s2⟩, [ps2], rfl, ⟨wv0, wv1, s2w, s2l⟩, fun β1 β2 => ?_, fun β0 => ?_⟩
  · exact ⟨rfl, ⟨rfl, ⟨s2i.val _ _ (by simp), trivial⟩⟩⟩
  · exact ⟨⟨rfl, s2i.ob _ _, flatL_map PieceD.flat _⟩, trivial⟩

structure KnownD where
  keys : List Int
  tags : List TagD
deriving DecidableEq, Inhabited
/-- The cells, the slices being objects o, o+1 and so on. -/
def KnownD.cs (x : KnownD) (o : Nat) : List Sc := [.sl (o + 0) 0 x.keys.length, .sl (o + 1) 0 x.tags.length]
def KnownD.hp (x : KnownD) (own : Bool) : Hp := [some ⟨x.keys.map intC, 1, 3, own, true⟩, some ⟨x.tags.map TagD.cs, 5, 28, own, true⟩]
/-- As they come in. -/
def KnownD.hpL (x : KnownD) : Hp := [some ⟨x.keys.map intC, 1, 3, false, true⟩, some ⟨x.tags.map TagD.cs, 5, 23, false, true⟩]
def KnownD.wf (x : KnownD) : Prop := (∀ y ∈ x.keys, I64 y) ∧ (∀ y ∈ x.tags, TagD.wf y) ∧ x.keys.length ≤ maxLen ∧ x.tags.length ≤ maxLen
def KnownD.ls : List L1 := [.sl [.int], .sl [.int, .int, .int, .int, .int]]
theorem KnownD.conv {w : World} {cs : List Value} (h : See1s w KnownD.ls cs) : ∃ (x : KnownD) (β : Be), β.length = 2 ∧ x.wf ∧ (∀ β1 β2 : Be, L2 (ScR (β1 ++ (β ++ β2))) (x.cs β1.length) cs) ∧ (∀ β0 : Be, RoL β0 w β x.hpL) := by
  obtain ⟨_, _, e, s0h, h⟩ := h; subst e
  obtain ⟨_, _, e, s1h, h⟩ := h; subst e
  obtain rfl := h
  obtain ⟨s0, ps0, s0i, s0l, s0w⟩ := see_slx intC [.int] I64 (fun _ => rfl) (fun _ h => intC_conv h) s0h
  obtain ⟨s1, ps1, s1i, s1l, s1w⟩ := see_slx TagD.cs [.int, .int, .int, .int, .int] TagD.wf TagD.flat (fun _ h => TagD.conv h) s1h
  refine ⟨⟨s0, s1⟩, [ps0, ps1], rfl, ⟨s0w, s1w, s0l, s1l⟩, fun β1 β2 => ?_, fun β0 => ?_⟩
  · exact ⟨s0i.val _ _ (by simp), ⟨s1i.val _ _ (by simp), trivial⟩⟩
  · exact ⟨⟨rfl, s0i.ob _ _, flatL_map (fun _ => rfl) _⟩, ⟨⟨rfl, s1i.ob _ _, flatL_map TagD.flat _⟩, trivial⟩⟩

structure EndD where
  side : Int
  state : Int
  key : Int
  peer : Int
  policy : PolicyD
  own : List AddrD
  far : List AddrD
  subs : List SubD
  halfs : List HalfD
  bucket : BucketD
  out : OutD
  inp : PiecesD
  done : List Int
  over : List Int
  draw : Int
  now : Int
  pick : Int
deriving DecidableEq, Inhabited
/-- The cells, the slices being objects o, o+1 and so on. -/
def EndD.cs (x : EndD) (o : Nat) : List Sc := [.int .i64 x.side, .int .i64 x.state, .int .i64 x.key, .int .i64 x.peer, .int .i64 x.policy.kind, .int .i64 x.policy.many, .sl (o + 0) 0 x.own.length, .sl (o + 1) 0 x.far.length, .sl (o + 2) 0 x.subs.length, .sl (o + 3) 0 x.halfs.length, .int .i64 x.bucket.rate, .int .i64 x.bucket.burst, .int .i64 x.bucket.cur, .st x.out.text, .int .i64 x.out.base, .int .i64 x.out.sent, .int .i64 x.out.room, .int .i64 x.inp.read, .st x.inp.ready, .sl (o + 4) 0 x.inp.list.length, .sl (o + 5) 0 x.done.length, .sl (o + 6) 0 x.over.length, .int .i64 x.draw, .int .i64 x.now, .int .i64 x.pick]
def EndD.hp (x : EndD) (own : Bool) : Hp := [some ⟨x.own.map AddrD.cs, 4, 167, own, true⟩, some ⟨x.far.map AddrD.cs, 4, 167, own, true⟩, some ⟨x.subs.map SubD.cs, 10, 155, own, true⟩, some ⟨x.halfs.map HalfD.cs, 8, 139, own, true⟩, some ⟨x.inp.list.map PieceD.cs, 2, 231, own, true⟩, some ⟨x.done.map intC, 1, 3, own, true⟩, some ⟨x.over.map intC, 1, 3, own, true⟩]
/-- As they come in. -/
def EndD.hpL (x : EndD) : Hp := [some ⟨x.own.map AddrD.cs, 4, 195, false, true⟩, some ⟨x.far.map AddrD.cs, 4, 195, false, true⟩, some ⟨x.subs.map SubD.cs, 10, 199, false, true⟩, some ⟨x.halfs.map HalfD.cs, 8, 202, false, true⟩, some ⟨x.inp.list.map PieceD.cs, 2, 229, false, true⟩, some ⟨x.done.map intC, 1, 3, false, true⟩, some ⟨x.over.map intC, 1, 3, false, true⟩]
def EndD.wf (x : EndD) : Prop := I64 x.side ∧ I64 x.state ∧ I64 x.key ∧ I64 x.peer ∧ I64 x.policy.kind ∧ I64 x.policy.many ∧ I64 x.bucket.rate ∧ I64 x.bucket.burst ∧ I64 x.bucket.cur ∧ x.out.text.length ≤ maxLen ∧ I64 x.out.base ∧ I64 x.out.sent ∧ I64 x.out.room ∧ I64 x.inp.read ∧ x.inp.ready.length ≤ maxLen ∧ I64 x.draw ∧ I64 x.now ∧ I64 x.pick ∧ (∀ y ∈ x.own, AddrD.wf y) ∧ (∀ y ∈ x.far, AddrD.wf y) ∧ (∀ y ∈ x.subs, SubD.wf y) ∧ (∀ y ∈ x.halfs, HalfD.wf y) ∧ (∀ y ∈ x.inp.list, PieceD.wf y) ∧ (∀ y ∈ x.done, I64 y) ∧ (∀ y ∈ x.over, I64 y) ∧ x.own.length ≤ maxLen ∧ x.far.length ≤ maxLen ∧ x.subs.length ≤ maxLen ∧ x.halfs.length ≤ maxLen ∧ x.inp.list.length ≤ maxLen ∧ x.done.length ≤ maxLen ∧ x.over.length ≤ maxLen
theorem EndD.wf_inp {x : EndD} (h : x.wf) : x.inp.wf := by
  obtain ⟨_, _, _, _, _, _, _, _, _, _, _, _, _, h13, h14, _, _, _, _, _, _, _, h22, _, _, _, _, _, _, h29, _, _⟩ := h
  exact ⟨h13, h14, h22, h29⟩
def EndD.ls : List L1 := [.one .int, .one .int, .one .int, .one .int, .one .int, .one .int, .sl [.int, .int, .bool, .bool], .sl [.int, .int, .bool, .bool], .sl [.int, .int, .int, .int, .bool, .int, .int, .int, .int, .int], .sl [.int, .int, .int, .int, .int, .int, .int, .int], .one .int, .one .int, .one .int, .one .str, .one .int, .one .int, .one .int, .one .int, .one .str, .sl [.int, .str], .sl [.int], .sl [.int], .one .int, .one .int, .one .int]
theorem EndD.conv {w : World} {cs : List Value} (h : See1s w EndD.ls cs) : ∃ (x : EndD) (β : Be), β.length = 7 ∧ x.wf ∧ (∀ β1 β2 : Be, L2 (ScR (β1 ++ (β ++ β2))) (x.cs β1.length) cs) ∧ (∀ β0 : Be, RoL β0 w β x.hpL) := by
  obtain ⟨_, _, e, ⟨v0, rfl, wv0⟩, h⟩ := h; subst e
  obtain ⟨_, _, e, ⟨v1, rfl, wv1⟩, h⟩ := h; subst e
  obtain ⟨_, _, e, ⟨v2, rfl, wv2⟩, h⟩ := h; subst e
  obtain ⟨_, _, e, ⟨v3, rfl, wv3⟩, h⟩ := h; subst e
  obtain ⟨_, _, e, ⟨v4, rfl, wv4⟩, h⟩ := h; subst e
  obtain ⟨_, _, e, ⟨v5, rfl, wv5⟩, h⟩ := h; subst e
  obtain ⟨_, _, e, s6h, h⟩ := h; subst e
  obtain ⟨_, _, e, s7h, h⟩ := h; subst e
  obtain ⟨_, _, e, s8h, h⟩ := h; subst e
  obtain ⟨_, _, e, s9h, h⟩ := h; subst e
  obtain ⟨_, _, e, ⟨v10, rfl, wv10⟩, h⟩ := h; subst e
  obtain ⟨_, _, e, ⟨v11, rfl, wv11⟩, h⟩ := h; subst e
  obtain ⟨_, _, e, ⟨v12, rfl, wv12⟩, h⟩ := h; subst e
  obtain ⟨_, _, e, ⟨v13, rfl, wv13⟩, h⟩ := h; subst e
  obtain ⟨_, _, e, ⟨v14, rfl, wv14⟩, h⟩ := h; subst e
  obtain ⟨_, _, e, ⟨v15, rfl, wv15⟩, h⟩ := h; subst e
  obtain ⟨_, _, e, ⟨v16, rfl, wv16⟩, h⟩ := h; subst e
  obtain ⟨_, _, e, ⟨v17, rfl, wv17⟩, h⟩ := h; subst e
  obtain ⟨_, _, e, ⟨v18, rfl, wv18⟩, h⟩ := h; subst e
  obtain ⟨_, _, e, s19h, h⟩ := h; subst e
  obtain ⟨_, _, e, s20h, h⟩ := h; subst e
  obtain ⟨_, _, e, s21h, h⟩ := h; subst e
  obtain ⟨_, _, e, ⟨v22, rfl, wv22⟩, h⟩ := h; subst e
  obtain ⟨_, _, e, ⟨v23, rfl, wv23⟩, h⟩ := h; subst e
  obtain ⟨_, _, e, ⟨v24, rfl, wv24⟩, h⟩ := h; subst e
  obtain rfl := h
  obtain ⟨s6, ps6, s6i, s6l, s6w⟩ := see_slx AddrD.cs [.int, .int, .bool, .bool] AddrD.wf AddrD.flat (fun _ h => AddrD.conv h) s6h
  obtain ⟨s7, ps7, s7i, s7l, s7w⟩ := see_slx AddrD.cs [.int, .int, .bool, .bool] AddrD.wf AddrD.flat (fun _ h => AddrD.conv h) s7h
  obtain ⟨s8, ps8, s8i, s8l, s8w⟩ := see_slx SubD.cs [.int, .int, .int, .int, .bool, .int, .int, .int, .int, .int] SubD.wf SubD.flat (fun _ h => SubD.conv h) s8h
  obtain ⟨s9, ps9, s9i, s9l, s9w⟩ := see_slx HalfD.cs [.int, .int, .int, .int, .int, .int, .int, .int] HalfD.wf HalfD.flat (fun _ h => HalfD.conv h) s9h
  obtain ⟨s19, ps19, s19i, s19l, s19w⟩ := see_slx PieceD.cs [.int, .str] PieceD.wf PieceD.flat (fun _ h => PieceD.conv h) s19h
  obtain ⟨s20, ps20, s20i, s20l, s20w⟩ := see_slx intC [.int] I64 (fun _ => rfl) (fun _ h => intC_conv h) s20h
  obtain ⟨s21, ps21, s21i, s21l, s21w⟩ := see_slx intC [.int] I64 (fun _ => rfl) (fun _ h => intC_conv h) s21h
  refine ⟨⟨v0, v1, v2, v3, ⟨v4, v5⟩, s6, s7, s8, s9, ⟨v10, v11, v12⟩, ⟨v13.data.toList, v14, v15, v16⟩, ⟨v17, v18.data.toList, s19⟩, s20, s21, v22, v23, v24⟩, [ps6, ps7, ps8, ps9, ps19, ps20, ps21], rfl, ⟨wv0, wv1, wv2, wv3, wv4, wv5, wv10, wv11, wv12, wv13, wv14, wv15, wv16, wv17, wv18, wv22, wv23, wv24, s6w, s7w, s8w, s9w, s19w, s20w, s21w, s6l, s7l, s8l, s9l, s19l, s20l, s21l⟩, fun β1 β2 => ?_, fun β0 => ?_⟩
  · exact ⟨rfl, ⟨rfl, ⟨rfl, ⟨rfl, ⟨rfl, ⟨rfl, ⟨s6i.val _ _ (by simp), ⟨s7i.val _ _ (by simp), ⟨s8i.val _ _ (by simp), ⟨s9i.val _ _ (by simp), ⟨rfl, ⟨rfl, ⟨rfl, ⟨rfl, ⟨rfl, ⟨rfl, ⟨rfl, ⟨rfl, ⟨rfl, ⟨s19i.val _ _ (by simp), ⟨s20i.val _ _ (by simp), ⟨s21i.val _ _ (by simp), ⟨rfl, ⟨rfl, ⟨rfl, trivial⟩⟩⟩⟩⟩⟩⟩⟩⟩⟩⟩⟩⟩⟩⟩⟩⟩⟩⟩⟩⟩⟩⟩⟩⟩
  · exact ⟨⟨rfl, s6i.ob _ _, flatL_map AddrD.flat _⟩, ⟨⟨rfl, s7i.ob _ _, flatL_map AddrD.flat _⟩, ⟨⟨rfl, s8i.ob _ _, flatL_map SubD.flat _⟩, ⟨⟨rfl, s9i.ob _ _, flatL_map HalfD.flat _⟩, ⟨⟨rfl, s19i.ob _ _, flatL_map PieceD.flat _⟩, ⟨⟨rfl, s20i.ob _ _, flatL_map (fun _ => rfl) _⟩, ⟨⟨rfl, s21i.ob _ _, flatL_map (fun _ => rfl) _⟩, trivial⟩⟩⟩⟩⟩⟩⟩

attribute [go_sem] PiecesD.cs PiecesD.hp PiecesD.hpL KnownD.cs KnownD.hp KnownD.hpL EndD.cs EndD.hp EndD.hpL
end
section
open Go.ChangeShapes Go.WideShapes Go.ChangeAt Go.RowKit
set_option linter.unusedVariables false

structure WorldD where
  a : EndD
  b : EndD
  bag : List LetterD
  past : List LetterD
  wroteA : List UInt8
  wroteB : List UInt8
  readA : List UInt8
  readB : List UInt8
  known : KnownD
  nums : List Int
  answersA : List Int
  answersB : List Int
deriving DecidableEq, Inhabited
/-- The cells, the slices being objects o, o+1 and so on. -/
def WorldD.cs (x : WorldD) (o : Nat) : List Sc := [.int .i64 x.a.side, .int .i64 x.a.state, .int .i64 x.a.key, .int .i64 x.a.peer, .int .i64 x.a.policy.kind, .int .i64 x.a.policy.many, .sl (o + 0) 0 x.a.own.length, .sl (o + 1) 0 x.a.far.length, .sl (o + 2) 0 x.a.subs.length, .sl (o + 3) 0 x.a.halfs.length, .int .i64 x.a.bucket.rate, .int .i64 x.a.bucket.burst, .int .i64 x.a.bucket.cur, .st x.a.out.text, .int .i64 x.a.out.base, .int .i64 x.a.out.sent, .int .i64 x.a.out.room, .int .i64 x.a.inp.read, .st x.a.inp.ready, .sl (o + 4) 0 x.a.inp.list.length, .sl (o + 5) 0 x.a.done.length, .sl (o + 6) 0 x.a.over.length, .int .i64 x.a.draw, .int .i64 x.a.now, .int .i64 x.a.pick, .int .i64 x.b.side, .int .i64 x.b.state, .int .i64 x.b.key, .int .i64 x.b.peer, .int .i64 x.b.policy.kind, .int .i64 x.b.policy.many, .sl (o + 7) 0 x.b.own.length, .sl (o + 8) 0 x.b.far.length, .sl (o + 9) 0 x.b.subs.length, .sl (o + 10) 0 x.b.halfs.length, .int .i64 x.b.bucket.rate, .int .i64 x.b.bucket.burst, .int .i64 x.b.bucket.cur, .st x.b.out.text, .int .i64 x.b.out.base, .int .i64 x.b.out.sent, .int .i64 x.b.out.room, .int .i64 x.b.inp.read, .st x.b.inp.ready, .sl (o + 11) 0 x.b.inp.list.length, .sl (o + 12) 0 x.b.done.length, .sl (o + 13) 0 x.b.over.length, .int .i64 x.b.draw, .int .i64 x.b.now, .int .i64 x.b.pick, .sl (o + 14) 0 x.bag.length, .sl (o + 15) 0 x.past.length, .st x.wroteA, .st x.wroteB, .st x.readA, .st x.readB, .sl (o + 16) 0 x.known.keys.length, .sl (o + 17) 0 x.known.tags.length, .sl (o + 18) 0 x.nums.length, .sl (o + 19) 0 x.answersA.length, .sl (o + 20) 0 x.answersB.length]
def WorldD.hp (x : WorldD) (own : Bool) : Hp := [some ⟨x.a.own.map AddrD.cs, 4, 167, own, true⟩, some ⟨x.a.far.map AddrD.cs, 4, 167, own, true⟩, some ⟨x.a.subs.map SubD.cs, 10, 155, own, true⟩, some ⟨x.a.halfs.map HalfD.cs, 8, 139, own, true⟩, some ⟨x.a.inp.list.map PieceD.cs, 2, 231, own, true⟩, some ⟨x.a.done.map intC, 1, 3, own, true⟩, some ⟨x.a.over.map intC, 1, 3, own, true⟩, some ⟨x.b.own.map AddrD.cs, 4, 167, own, true⟩, some ⟨x.b.far.map AddrD.cs, 4, 167, own, true⟩, some ⟨x.b.subs.map SubD.cs, 10, 155, own, true⟩, some ⟨x.b.halfs.map HalfD.cs, 8, 139, own, true⟩, some ⟨x.b.inp.list.map PieceD.cs, 2, 231, own, true⟩, some ⟨x.b.done.map intC, 1, 3, own, true⟩, some ⟨x.b.over.map intC, 1, 3, own, true⟩, some ⟨x.bag.map LetterD.cs, 19, 30, own, true⟩, some ⟨x.past.map LetterD.cs, 19, 30, own, true⟩, some ⟨x.known.keys.map intC, 1, 3, own, true⟩, some ⟨x.known.tags.map TagD.cs, 5, 28, own, true⟩, some ⟨x.nums.map intC, 1, 3, own, true⟩, some ⟨x.answersA.map intC, 1, 3, own, true⟩, some ⟨x.answersB.map intC, 1, 3, own, true⟩]
/-- As they come in. -/
def WorldD.hpL (x : WorldD) : Hp := [some ⟨x.a.own.map AddrD.cs, 4, 195, false, true⟩, some ⟨x.a.far.map AddrD.cs, 4, 195, false, true⟩, some ⟨x.a.subs.map SubD.cs, 10, 199, false, true⟩, some ⟨x.a.halfs.map HalfD.cs, 8, 202, false, true⟩, some ⟨x.a.inp.list.map PieceD.cs, 2, 229, false, true⟩, some ⟨x.a.done.map intC, 1, 3, false, true⟩, some ⟨x.a.over.map intC, 1, 3, false, true⟩, some ⟨x.b.own.map AddrD.cs, 4, 195, false, true⟩, some ⟨x.b.far.map AddrD.cs, 4, 195, false, true⟩, some ⟨x.b.subs.map SubD.cs, 10, 199, false, true⟩, some ⟨x.b.halfs.map HalfD.cs, 8, 202, false, true⟩, some ⟨x.b.inp.list.map PieceD.cs, 2, 229, false, true⟩, some ⟨x.b.done.map intC, 1, 3, false, true⟩, some ⟨x.b.over.map intC, 1, 3, false, true⟩, some ⟨x.bag.map LetterD.cs, 19, 25, false, true⟩, some ⟨x.past.map LetterD.cs, 19, 25, false, true⟩, some ⟨x.known.keys.map intC, 1, 3, false, true⟩, some ⟨x.known.tags.map TagD.cs, 5, 23, false, true⟩, some ⟨x.nums.map intC, 1, 3, false, true⟩, some ⟨x.answersA.map intC, 1, 3, false, true⟩, some ⟨x.answersB.map intC, 1, 3, false, true⟩]
def WorldD.wf (x : WorldD) : Prop := I64 x.a.side ∧ I64 x.a.state ∧ I64 x.a.key ∧ I64 x.a.peer ∧ I64 x.a.policy.kind ∧ I64 x.a.policy.many ∧ I64 x.a.bucket.rate ∧ I64 x.a.bucket.burst ∧ I64 x.a.bucket.cur ∧ x.a.out.text.length ≤ maxLen ∧ I64 x.a.out.base ∧ I64 x.a.out.sent ∧ I64 x.a.out.room ∧ I64 x.a.inp.read ∧ x.a.inp.ready.length ≤ maxLen ∧ I64 x.a.draw ∧ I64 x.a.now ∧ I64 x.a.pick ∧ I64 x.b.side ∧ I64 x.b.state ∧ I64 x.b.key ∧ I64 x.b.peer ∧ I64 x.b.policy.kind ∧ I64 x.b.policy.many ∧ I64 x.b.bucket.rate ∧ I64 x.b.bucket.burst ∧ I64 x.b.bucket.cur ∧ x.b.out.text.length ≤ maxLen ∧ I64 x.b.out.base ∧ I64 x.b.out.sent ∧ I64 x.b.out.room ∧ I64 x.b.inp.read ∧ x.b.inp.ready.length ≤ maxLen ∧ I64 x.b.draw ∧ I64 x.b.now ∧ I64 x.b.pick ∧ x.wroteA.length ≤ maxLen ∧ x.wroteB.length ≤ maxLen ∧ x.readA.length ≤ maxLen ∧ x.readB.length ≤ maxLen ∧ (∀ y ∈ x.a.own, AddrD.wf y) ∧ (∀ y ∈ x.a.far, AddrD.wf y) ∧ (∀ y ∈ x.a.subs, SubD.wf y) ∧ (∀ y ∈ x.a.halfs, HalfD.wf y) ∧ (∀ y ∈ x.a.inp.list, PieceD.wf y) ∧ (∀ y ∈ x.a.done, I64 y) ∧ (∀ y ∈ x.a.over, I64 y) ∧ (∀ y ∈ x.b.own, AddrD.wf y) ∧ (∀ y ∈ x.b.far, AddrD.wf y) ∧ (∀ y ∈ x.b.subs, SubD.wf y) ∧ (∀ y ∈ x.b.halfs, HalfD.wf y) ∧ (∀ y ∈ x.b.inp.list, PieceD.wf y) ∧ (∀ y ∈ x.b.done, I64 y) ∧ (∀ y ∈ x.b.over, I64 y) ∧ (∀ y ∈ x.bag, LetterD.wf y) ∧ (∀ y ∈ x.past, LetterD.wf y) ∧ (∀ y ∈ x.known.keys, I64 y) ∧ (∀ y ∈ x.known.tags, TagD.wf y) ∧ (∀ y ∈ x.nums, I64 y) ∧ (∀ y ∈ x.answersA, I64 y) ∧ (∀ y ∈ x.answersB, I64 y) ∧ x.a.own.length ≤ maxLen ∧ x.a.far.length ≤ maxLen ∧ x.a.subs.length ≤ maxLen ∧ x.a.halfs.length ≤ maxLen ∧ x.a.inp.list.length ≤ maxLen ∧ x.a.done.length ≤ maxLen ∧ x.a.over.length ≤ maxLen ∧ x.b.own.length ≤ maxLen ∧ x.b.far.length ≤ maxLen ∧ x.b.subs.length ≤ maxLen ∧ x.b.halfs.length ≤ maxLen ∧ x.b.inp.list.length ≤ maxLen ∧ x.b.done.length ≤ maxLen ∧ x.b.over.length ≤ maxLen ∧ x.bag.length ≤ maxLen ∧ x.past.length ≤ maxLen ∧ x.known.keys.length ≤ maxLen ∧ x.known.tags.length ≤ maxLen ∧ x.nums.length ≤ maxLen ∧ x.answersA.length ≤ maxLen ∧ x.answersB.length ≤ maxLen
def WorldD.ls : List L1 := [.one .int, .one .int, .one .int, .one .int, .one .int, .one .int, .sl [.int, .int, .bool, .bool], .sl [.int, .int, .bool, .bool], .sl [.int, .int, .int, .int, .bool, .int, .int, .int, .int, .int], .sl [.int, .int, .int, .int, .int, .int, .int, .int], .one .int, .one .int, .one .int, .one .str, .one .int, .one .int, .one .int, .one .int, .one .str, .sl [.int, .str], .sl [.int], .sl [.int], .one .int, .one .int, .one .int, .one .int, .one .int, .one .int, .one .int, .one .int, .one .int, .sl [.int, .int, .bool, .bool], .sl [.int, .int, .bool, .bool], .sl [.int, .int, .int, .int, .bool, .int, .int, .int, .int, .int], .sl [.int, .int, .int, .int, .int, .int, .int, .int], .one .int, .one .int, .one .int, .one .str, .one .int, .one .int, .one .int, .one .int, .one .str, .sl [.int, .str], .sl [.int], .sl [.int], .one .int, .one .int, .one .int, .sl [.int, .int, .int, .int, .int, .int, .int, .int, .int, .int, .int, .int, .int, .int, .int, .int, .bool, .int, .str], .sl [.int, .int, .int, .int, .int, .int, .int, .int, .int, .int, .int, .int, .int, .int, .int, .int, .bool, .int, .str], .one .str, .one .str, .one .str, .one .str, .sl [.int], .sl [.int, .int, .int, .int, .int], .sl [.int], .sl [.int], .sl [.int]]
theorem WorldD.conv {w : World} {cs : List Value} (h : See1s w WorldD.ls cs) : ∃ (x : WorldD) (β : Be), β.length = 21 ∧ x.wf ∧ (∀ β1 β2 : Be, L2 (ScR (β1 ++ (β ++ β2))) (x.cs β1.length) cs) ∧ (∀ β0 : Be, RoL β0 w β x.hpL) := by
  obtain ⟨_, _, e, ⟨v0, rfl, wv0⟩, h⟩ := h; subst e
  obtain ⟨_, _, e, ⟨v1, rfl, wv1⟩, h⟩ := h; subst e
  obtain ⟨_, _, e, ⟨v2, rfl, wv2⟩, h⟩ := h; subst e
  obtain ⟨_, _, e, ⟨v3, rfl, wv3⟩, h⟩ := h; subst e
  obtain ⟨_, _, e, ⟨v4, rfl, wv4⟩, h⟩ := h; subst e
  obtain ⟨_, _, e, ⟨v5, rfl, wv5⟩, h⟩ := h; subst e
  obtain ⟨_, _, e, s6h, h⟩ := h; subst e
  obtain ⟨_, _, e, s7h, h⟩ := h; subst e
  obtain ⟨_, _, e, s8h, h⟩ := h; subst e
  obtain ⟨_, _, e, s9h, h⟩ := h; subst e
  obtain ⟨_, _, e, ⟨v10, rfl, wv10⟩, h⟩ := h; subst e
  obtain ⟨_, _, e, ⟨v11, rfl, wv11⟩, h⟩ := h; subst e
  obtain ⟨_, _, e, ⟨v12, rfl, wv12⟩, h⟩ := h; subst e
  obtain ⟨_, _, e, ⟨v13, rfl, wv13⟩, h⟩ := h; subst e
  obtain ⟨_, _, e, ⟨v14, rfl, wv14⟩, h⟩ := h; subst e
  obtain ⟨_, _, e, ⟨v15, rfl, wv15⟩, h⟩ := h; subst e
  obtain ⟨_, _, e, ⟨v16, rfl, wv16⟩, h⟩ := h; subst e
  obtain ⟨_, _, e, ⟨v17, rfl, wv17⟩, h⟩ := h; subst e
  obtain ⟨_, _, e, ⟨v18, rfl, wv18⟩, h⟩ := h; subst e
  obtain ⟨_, _, e, s19h, h⟩ := h; subst e
  obtain ⟨_, _, e, s20h, h⟩ := h; subst e
  obtain ⟨_, _, e, s21h, h⟩ := h; subst e
  obtain ⟨_, _, e, ⟨v22, rfl, wv22⟩, h⟩ := h; subst e
  obtain ⟨_, _, e, ⟨v23, rfl, wv23⟩, h⟩ := h; subst e
  obtain ⟨_, _, e, ⟨v24, rfl, wv24⟩, h⟩ := h; subst e
  obtain ⟨_, _, e, ⟨v25, rfl, wv25⟩, h⟩ := h; subst e
  obtain ⟨_, _, e, ⟨v26, rfl, wv26⟩, h⟩ := h; subst e
  obtain ⟨_, _, e, ⟨v27, rfl, wv27⟩, h⟩ := h; subst e
  obtain ⟨_, _, e, ⟨v28, rfl, wv28⟩, h⟩ := h; subst e
  obtain ⟨_, _, e, ⟨v29, rfl, wv29⟩, h⟩ := h; subst e
  obtain ⟨_, _, e, ⟨v30, rfl, wv30⟩, h⟩ := h; subst e
  obtain ⟨_, _, e, s31h, h⟩ := h; subst e
  obtain ⟨_, _, e, s32h, h⟩ := h; subst e
  obtain ⟨_, _, e, s33h, h⟩ := h; subst e
  obtain ⟨_, _, e, s34h, h⟩ := h; subst e
  obtain ⟨_, _, e, ⟨v35, rfl, wv35⟩, h⟩ := h; subst e
  obtain ⟨_, _, e, ⟨v36, rfl, wv36⟩, h⟩ := h; subst e
  obtain ⟨_, _, e, ⟨v37, rfl, wv37⟩, h⟩ := h; subst e
  obtain ⟨_, _, e, ⟨v38, rfl, wv38⟩, h⟩ := h; subst e
  obtain ⟨_, _, e, ⟨v39, rfl, wv39⟩, h⟩ := h; subst e
  obtain ⟨_, _, e, ⟨v40, rfl, wv40⟩, h⟩ := h; subst e
  obtain ⟨_, _, e, ⟨v41, rfl, wv41⟩, h⟩ := h; subst e
  obtain ⟨_, _, e, ⟨v42, rfl, wv42⟩, h⟩ := h; subst e
  obtain ⟨_, _, e, ⟨v43, rfl, wv43⟩, h⟩ := h; subst e
  obtain ⟨_, _, e, s44h, h⟩ := h; subst e
  obtain ⟨_, _, e, s45h, h⟩ := h; subst e
  obtain ⟨_, _, e, s46h, h⟩ := h; subst e
  obtain ⟨_, _, e, ⟨v47, rfl, wv47⟩, h⟩ := h; subst e
  obtain ⟨_, _, e, ⟨v48, rfl, wv48⟩, h⟩ := h; subst e
  obtain ⟨_, _, e, ⟨v49, rfl, wv49⟩, h⟩ := h; subst e
  obtain ⟨_, _, e, s50h, h⟩ := h; subst e
  obtain ⟨_, _, e, s51h, h⟩ := h; subst e
  obtain ⟨_, _, e, ⟨v52, rfl, wv52⟩, h⟩ := h; subst e
  obtain ⟨_, _, e, ⟨v53, rfl, wv53⟩, h⟩ := h; subst e
  obtain ⟨_, _, e, ⟨v54, rfl, wv54⟩, h⟩ := h; subst e
  obtain ⟨_, _, e, ⟨v55, rfl, wv55⟩, h⟩ := h; subst e
  obtain ⟨_, _, e, s56h, h⟩ := h; subst e
  obtain ⟨_, _, e, s57h, h⟩ := h; subst e
  obtain ⟨_, _, e, s58h, h⟩ := h; subst e
  obtain ⟨_, _, e, s59h, h⟩ := h; subst e
  obtain ⟨_, _, e, s60h, h⟩ := h; subst e
  obtain rfl := h
  obtain ⟨s6, ps6, s6i, s6l, s6w⟩ := see_slx AddrD.cs [.int, .int, .bool, .bool] AddrD.wf AddrD.flat (fun _ h => AddrD.conv h) s6h
  obtain ⟨s7, ps7, s7i, s7l, s7w⟩ := see_slx AddrD.cs [.int, .int, .bool, .bool] AddrD.wf AddrD.flat (fun _ h => AddrD.conv h) s7h
  obtain ⟨s8, ps8, s8i, s8l, s8w⟩ := see_slx SubD.cs [.int, .int, .int, .int, .bool, .int, .int, .int, .int, .int] SubD.wf SubD.flat (fun _ h => SubD.conv h) s8h
  obtain ⟨s9, ps9, s9i, s9l, s9w⟩ := see_slx HalfD.cs [.int, .int, .int, .int, .int, .int, .int, .int] HalfD.wf HalfD.flat (fun _ h => HalfD.conv h) s9h
  obtain ⟨s19, ps19, s19i, s19l, s19w⟩ := see_slx PieceD.cs [.int, .str] PieceD.wf PieceD.flat (fun _ h => PieceD.conv h) s19h
  obtain ⟨s20, ps20, s20i, s20l, s20w⟩ := see_slx intC [.int] I64 (fun _ => rfl) (fun _ h => intC_conv h) s20h
  obtain ⟨s21, ps21, s21i, s21l, s21w⟩ := see_slx intC [.int] I64 (fun _ => rfl) (fun _ h => intC_conv h) s21h
  obtain ⟨s31, ps31, s31i, s31l, s31w⟩ := see_slx AddrD.cs [.int, .int, .bool, .bool] AddrD.wf AddrD.flat (fun _ h => AddrD.conv h) s31h
  obtain ⟨s32, ps32, s32i, s32l, s32w⟩ := see_slx AddrD.cs [.int, .int, .bool, .bool] AddrD.wf AddrD.flat (fun _ h => AddrD.conv h) s32h
  obtain ⟨s33, ps33, s33i, s33l, s33w⟩ := see_slx SubD.cs [.int, .int, .int, .int, .bool, .int, .int, .int, .int, .int] SubD.wf SubD.flat (fun _ h => SubD.conv h) s33h
  obtain ⟨s34, ps34, s34i, s34l, s34w⟩ := see_slx HalfD.cs [.int, .int, .int, .int, .int, .int, .int, .int] HalfD.wf HalfD.flat (fun _ h => HalfD.conv h) s34h
  obtain ⟨s44, ps44, s44i, s44l, s44w⟩ := see_slx PieceD.cs [.int, .str] PieceD.wf PieceD.flat (fun _ h => PieceD.conv h) s44h
  obtain ⟨s45, ps45, s45i, s45l, s45w⟩ := see_slx intC [.int] I64 (fun _ => rfl) (fun _ h => intC_conv h) s45h
  obtain ⟨s46, ps46, s46i, s46l, s46w⟩ := see_slx intC [.int] I64 (fun _ => rfl) (fun _ h => intC_conv h) s46h
  obtain ⟨s50, ps50, s50i, s50l, s50w⟩ := see_slx LetterD.cs [.int, .int, .int, .int, .int, .int, .int, .int, .int, .int, .int, .int, .int, .int, .int, .int, .bool, .int, .str] LetterD.wf LetterD.flat (fun _ h => LetterD.conv h) s50h
  obtain ⟨s51, ps51, s51i, s51l, s51w⟩ := see_slx LetterD.cs [.int, .int, .int, .int, .int, .int, .int, .int, .int, .int, .int, .int, .int, .int, .int, .int, .bool, .int, .str] LetterD.wf LetterD.flat (fun _ h => LetterD.conv h) s51h
  obtain ⟨s56, ps56, s56i, s56l, s56w⟩ := see_slx intC [.int] I64 (fun _ => rfl) (fun _ h => intC_conv h) s56h
  obtain ⟨s57, ps57, s57i, s57l, s57w⟩ := see_slx TagD.cs [.int, .int, .int, .int, .int] TagD.wf TagD.flat (fun _ h => TagD.conv h) s57h
  obtain ⟨s58, ps58, s58i, s58l, s58w⟩ := see_slx intC [.int] I64 (fun _ => rfl) (fun _ h => intC_conv h) s58h
  obtain ⟨s59, ps59, s59i, s59l, s59w⟩ := see_slx intC [.int] I64 (fun _ => rfl) (fun _ h => intC_conv h) s59h
  obtain ⟨s60, ps60, s60i, s60l, s60w⟩ := see_slx intC [.int] I64 (fun _ => rfl) (fun _ h => intC_conv h) s60h
  refine ⟨⟨⟨v0, v1, v2, v3, ⟨v4, v5⟩, s6, s7, s8, s9, ⟨v10, v11, v12⟩, ⟨v13.data.toList, v14, v15, v16⟩, ⟨v17, v18.data.toList, s19⟩, s20, s21, v22, v23, v24⟩, ⟨v25, v26, v27, v28, ⟨v29, v30⟩, s31, s32, s33, s34, ⟨v35, v36, v37⟩, ⟨v38.data.toList, v39, v40, v41⟩, ⟨v42, v43.data.toList, s44⟩, s45, s46, v47, v48, v49⟩, s50, s51, v52.data.toList, v53.data.toList, v54.data.toList, v55.data.toList, ⟨s56, s57⟩, s58, s59, s60⟩, [ps6, ps7, ps8, ps9, ps19, ps20, ps21, ps31, ps32, ps33, ps34, ps44, ps45, ps46, ps50, ps51, ps56, ps57, ps58, ps59, ps60], rfl, ⟨wv0, wv1, wv2, wv3, wv4, wv5, wv10, wv11, wv12, wv13, wv14, wv15, wv16, wv17, wv18, wv22, wv23, wv24, wv25, wv26, wv27, wv28, wv29, wv30, wv35, wv36, wv37, wv38, wv39, wv40, wv41, wv42, wv43, wv47, wv48, wv49, wv52, wv53, wv54, wv55, s6w, s7w, s8w, s9w, s19w, s20w, s21w, s31w, s32w, s33w, s34w, s44w, s45w, s46w, s50w, s51w, s56w, s57w, s58w, s59w, s60w, s6l, s7l, s8l, s9l, s19l, s20l, s21l, s31l, s32l, s33l, s34l, s44l, s45l, s46l, s50l, s51l, s56l, s57l, s58l, s59l, s60l⟩, fun β1 β2 => ?_, fun β0 => ?_⟩
  · exact ⟨rfl, ⟨rfl, ⟨rfl, ⟨rfl, ⟨rfl, ⟨rfl, ⟨s6i.val _ _ (by simp), ⟨s7i.val _ _ (by simp), ⟨s8i.val _ _ (by simp), ⟨s9i.val _ _ (by simp), ⟨rfl, ⟨rfl, ⟨rfl, ⟨rfl, ⟨rfl, ⟨rfl, ⟨rfl, ⟨rfl, ⟨rfl, ⟨s19i.val _ _ (by simp), ⟨s20i.val _ _ (by simp), ⟨s21i.val _ _ (by simp), ⟨rfl, ⟨rfl, ⟨rfl, ⟨rfl, ⟨rfl, ⟨rfl, ⟨rfl, ⟨rfl, ⟨rfl, ⟨s31i.val _ _ (by simp), ⟨s32i.val _ _ (by simp), ⟨s33i.val _ _ (by simp), ⟨s34i.val _ _ (by simp), ⟨rfl, ⟨rfl, ⟨rfl, ⟨rfl, ⟨rfl, ⟨rfl, ⟨rfl, ⟨rfl, ⟨rfl, ⟨s44i.val _ _ (by simp), ⟨s45i.val _ _ (by simp), ⟨s46i.val _ _ (by simp), ⟨rfl, ⟨rfl, ⟨rfl, ⟨s50i.val _ _ (by simp), ⟨s51i.val _ _ (by simp), ⟨rfl, ⟨rfl, ⟨rfl, ⟨rfl, ⟨s56i.val _ _ (by simp), ⟨s57i.val _ _ (by simp), ⟨s58i.val _ _ (by simp), ⟨s59i.val _ _ (by simp), ⟨s60i.val _ _ (by simp), trivial⟩⟩⟩⟩⟩⟩⟩⟩⟩⟩⟩⟩⟩⟩⟩⟩⟩⟩⟩⟩⟩⟩⟩⟩⟩⟩⟩⟩⟩⟩⟩⟩⟩⟩⟩⟩⟩⟩⟩⟩⟩⟩⟩⟩⟩⟩⟩⟩⟩⟩⟩⟩⟩⟩⟩⟩⟩⟩⟩⟩⟩
  · exact ⟨⟨rfl, s6i.ob _ _, flatL_map AddrD.flat _⟩, ⟨⟨rfl, s7i.ob _ _, flatL_map AddrD.flat _⟩, ⟨⟨rfl, s8i.ob _ _, flatL_map SubD.flat _⟩, ⟨⟨rfl, s9i.ob _ _, flatL_map HalfD.flat _⟩, ⟨⟨rfl, s19i.ob _ _, flatL_map PieceD.flat _⟩, ⟨⟨rfl, s20i.ob _ _, flatL_map (fun _ => rfl) _⟩, ⟨⟨rfl, s21i.ob _ _, flatL_map (fun _ => rfl) _⟩, ⟨⟨rfl, s31i.ob _ _, flatL_map AddrD.flat _⟩, ⟨⟨rfl, s32i.ob _ _, flatL_map AddrD.flat _⟩, ⟨⟨rfl, s33i.ob _ _, flatL_map SubD.flat _⟩, ⟨⟨rfl, s34i.ob _ _, flatL_map HalfD.flat _⟩, ⟨⟨rfl, s44i.ob _ _, flatL_map PieceD.flat _⟩, ⟨⟨rfl, s45i.ob _ _, flatL_map (fun _ => rfl) _⟩, ⟨⟨rfl, s46i.ob _ _, flatL_map (fun _ => rfl) _⟩, ⟨⟨rfl, s50i.ob _ _, flatL_map LetterD.flat _⟩, ⟨⟨rfl, s51i.ob _ _, flatL_map LetterD.flat _⟩, ⟨⟨rfl, s56i.ob _ _, flatL_map (fun _ => rfl) _⟩, ⟨⟨rfl, s57i.ob _ _, flatL_map TagD.flat _⟩, ⟨⟨rfl, s58i.ob _ _, flatL_map (fun _ => rfl) _⟩, ⟨⟨rfl, s59i.ob _ _, flatL_map (fun _ => rfl) _⟩, ⟨⟨rfl, s60i.ob _ _, flatL_map (fun _ => rfl) _⟩, trivial⟩⟩⟩⟩⟩⟩⟩⟩⟩⟩⟩⟩⟩⟩⟩⟩⟩⟩⟩⟩⟩

attribute [go_sem] WorldD.cs WorldD.hp WorldD.hpL
end
section
set_option linter.unusedVariables false
def natC (n : Nat) : List Sc := [.int .i64 (n : Int)]
attribute [go_sem] natC
theorem all_step {α : Type} {p : α → Bool} {l : List α} {k : Nat} (h : k < l.length) : (l.drop k).all p = (p l[k] && (l.drop (k + 1)).all p) := by
  rw [List.drop_eq_getElem_cons h, List.all_cons]
def lateP (now : Int) (h : HalfD) : Bool := decide (h.till ≤ now) || decide (6 < IntKind.u64.wrap (IntKind.u64.wrap h.till - IntKind.u64.wrap now))
def fresh (e : EndD) : Bool := e.halfs.all fun h => !lateP e.now h
def onGo (k : Nat) : List SubD → List Nat
  | [] => []
  | s :: r => if s.state = 3 then k :: onGo (k + 1) r else onGo (k + 1) r
def onN (l : List SubD) : List Nat := onGo 0 l
theorem onGo_step {l : List SubD} {k : Nat} (h : k < l.length) : onGo k (l.drop k) = if l[k].state = 3 then k :: onGo (k + 1) (l.drop (k + 1)) else onGo (k + 1) (l.drop (k + 1)) := by
  rw [List.drop_eq_getElem_cons h, onGo]
theorem onGo_mem : ∀ {l r : List SubD} {k : Nat}, r = l.drop k → ∀ n ∈ onGo k r, ∃ h : n < l.length, l[n].state = 3
  | l, [], k, hr, n, hn => by simp [onGo] at hn
  | l, s :: r, k, hr, n, hn => by
    have hk : k < l.length := by
      have := congrArg List.length hr
      simp at this; omega
    rw [List.drop_eq_getElem_cons hk] at hr
    obtain ⟨h1, h2⟩ := List.cons.inj hr
    rw [onGo] at hn
    split at hn
    · rename_i hs
      rcases List.mem_cons.1 hn with rfl | hn
      · exact ⟨hk, by rw [← h1]; exact hs⟩
      · exact onGo_mem h2 n hn
    · exact onGo_mem h2 n hn
theorem onN_mem {l : List SubD} {n : Nat} (h : n ∈ onN l) : ∃ h : n < l.length, l[n].state = 3 := onGo_mem (l := l) (by simp) n h
theorem onN_lt {l : List SubD} {k : Nat} (h : k < (onN l).length) : (onN l)[k] < l.length := (onN_mem (List.getElem_mem h)).1
theorem onGo_len : ∀ {l : List SubD} {k : Nat}, (onGo k l).length ≤ l.length
  | [], k => by simp [onGo]
  | s :: r, k => by
    rw [onGo]
    have := onGo_len (l := r) (k := k + 1)
    split <;> simp <;> omega
theorem onN_len (l : List SubD) : (onN l).length ≤ l.length := onGo_len
def subAtN (l : List SubD) (n : Nat) : SubD := l.getD n default
theorem subAtN_eq {l : List SubD} {n : Nat} (h : n < l.length) : subAtN l n = l[n] := by
  rw [subAtN, List.getD_eq_getElem?_getD, List.getElem?_eq_getElem h]; rfl
def bucketOk (b : BucketD) : Bool := inR b.rate 0 100 && inR b.burst 1 100 && inR b.cur 0 b.burst
def wantGo (far : List AddrD) (acc : List RoadD) : List AddrD → List RoadD
  | [] => acc
  | a :: r => wantGo far ((acc ++ far.map fun b => (⟨a.addr, b.addr, 0⟩ : RoadD)).take 8) r
def manyL (o f : Int) (n : Nat) : List RoadD := (List.range n).map fun (k : Nat) => (⟨o, f, (k : Int)⟩ : RoadD)
def addr0 (l : List AddrD) : Int := match l with
  | [] => 0
  | a :: _ => a.addr
def wanted (p : PolicyD) (own far : List AddrD) : List RoadD :=
  if polOk p = true ∧ inR own.length 1 6 = true ∧ inR far.length 1 6 = true then
    (if p.kind = 1 then wantGo far [] own else manyL (addr0 own) (addr0 far) (if p.kind = 2 then p.many.toNat else 1))
  else []
def roadEq (a b : RoadD) : Bool := a.own == b.own && (a.far == b.far && a.port == b.port)
end
section
set_option linter.unusedVariables false
def nextOf (p : PiecesD) : Int := IntKind.i64.wrap (p.read + (p.ready.length : Int))
end
section
set_option linter.unusedVariables false
def idxGo {α : Type} (p : α → Bool) (k : Nat) : List α → Int
  | [] => -1
  | x :: r => if p x then (k : Int) else idxGo p (k + 1) r
def idxOf {α : Type} (p : α → Bool) (l : List α) : Int := idxGo p 0 l
theorem idxGo_step {α : Type} {p : α → Bool} {l : List α} {k : Nat} (h : k < l.length) : idxGo p k (l.drop k) = if p l[k] then (k : Int) else idxGo p (k + 1) (l.drop (k + 1)) := by
  rw [List.drop_eq_getElem_cons h, idxGo]
theorem idxGo_end {α : Type} {p : α → Bool} {l : List α} {k : Nat} (h : l.length ≤ k) : idxGo p k (l.drop k) = -1 := by
  rw [List.drop_eq_nil_of_le h, idxGo]
def halfAt (l : List HalfD) (r : RoadD) : Int := idxOf (fun h => roadEq h.road r) l
def addrAt (l : List AddrD) (n : Int) : Int := idxOf (fun a => a.id == n) l
def subAt (l : List SubD) (r : RoadD) : Int := idxOf (fun s => s.state != 4 && roadEq s.road r) l
def roadN (r : RoadD) : Bool := isN r.own && isN r.far && isN r.port
def outOk (o : OutD) : Bool := isN o.base && inR o.room 1 200 && decide ((o.text.length : Int) ≤ o.room) && inR o.sent o.base (IntKind.i64.wrap (o.base + (o.text.length : Int)))
def heldGo (n : Int) : List PieceD → Int
  | [] => n
  | x :: r => heldGo (IntKind.i64.wrap (n + (x.text.length : Int))) r
def heldOf (p : PiecesD) : Int := heldGo (p.ready.length : Int) p.list
theorem heldGo_step {l : List PieceD} {n : Int} {k : Nat} (h : k < l.length) : heldGo n (l.drop k) = heldGo (IntKind.i64.wrap (n + (l[k].text.length : Int))) (l.drop (k + 1)) := by
  rw [List.drop_eq_getElem_cons h, heldGo]
def pcGo (en : Int) : List PieceD → Bool
  | [] => true
  | x :: r => !(x.text == []) && decide (x.pos ≤ 2000000000) && decide (en < x.pos) && pcGo (IntKind.i64.wrap (x.pos + (x.text.length : Int))) r
theorem pcGo_step {l : List PieceD} {n : Int} {k : Nat} (h : k < l.length) : pcGo n (l.drop k) = (!(l[k].text == []) && decide (l[k].pos ≤ 2000000000) && decide (n < l[k].pos) && pcGo (IntKind.i64.wrap (l[k].pos + (l[k].text.length : Int))) (l.drop (k + 1))) := by
  rw [List.drop_eq_getElem_cons h, pcGo]
def piecesOk (p : PiecesD) : Bool := isN p.read && decide ((p.list.length : Int) ≤ 20) && decide (heldOf p ≤ 200) && pcGo (nextOf p) p.list
/-- Each of the first places passes. -/
def upto (p : Nat → Bool) (n : Nat) : Bool := (List.range n).all p
theorem upto_true {p : Nat → Bool} {n : Nat} (h : ∀ j, j < n → p j = true) : upto p n = true := by
  simp only [upto, List.all_eq_true, List.mem_range]
  exact h
theorem upto_false {p : Nat → Bool} {n j : Nat} (hj : j < n) (h : p j = false) : upto p n = false := by
  cases hu : upto p n with
  | false => rfl
  | true =>
    simp only [upto, List.all_eq_true, List.mem_range] at hu
    rw [hu j hj] at h
    cases h
theorem upto_and {p q : Nat → Bool} {n : Nat} : upto (fun j => p j && q j) n = (upto p n && upto q n) := by
  cases h : upto p n with
  | false =>
    simp only [upto, List.all_eq_false, List.mem_range] at h
    obtain ⟨j, hj, h⟩ := h
    rw [Bool.false_and]
    exact upto_false hj (by simp at h; simp [h])
  | true =>
    rw [Bool.true_and]
    cases hq : upto q n with
    | false =>
      simp only [upto, List.all_eq_false, List.mem_range] at hq
      obtain ⟨j, hj, hq⟩ := hq
      exact upto_false hj (by simp at hq; simp [hq])
    | true =>
      simp only [upto, List.all_eq_true, List.mem_range] at h hq
      exact upto_true fun j hj => by rw [h j hj, hq j hj]; rfl
def adA (l : List AddrD) (j : Nat) : AddrD := l.getD j default
theorem adA_eq {l : List AddrD} {n : Nat} (h : n < l.length) : adA l n = l[n] := by
  rw [adA, List.getD_eq_getElem?_getD, List.getElem?_eq_getElem h]; rfl
def adOk (l : List AddrD) (j : Nat) : Bool := inR (adA l j).id 0 255 && inR (adA l j).addr 1 65535 && (j == 0 || decide ((adA l (j - 1)).id < (adA l j).id)) && (l.take j).all fun b => !((adA l j).addr == b.addr)
def addrsOk (l : List AddrD) : Bool := decide ((l.length : Int) ≤ 6) && upto (adOk l) l.length
def haA (l : List HalfD) (j : Nat) : HalfD := l.getD j default
theorem haA_eq {l : List HalfD} {n : Nat} (h : n < l.length) : haA l n = l[n] := by
  rw [haA, List.getD_eq_getElem?_getD, List.getElem?_eq_getElem h]; rfl
def haOk (l : List HalfD) (j : Nat) : Bool := roadN (haA l j).road && [(haA l j).theirs, (haA l j).mine, (haA l j).give, (haA l j).take, (haA l j).till].all isN && halfAt l (haA l j).road == (j : Int)
def halfsOk (l : List HalfD) : Bool := decide ((l.length : Int) ≤ 4) && upto (haOk l) l.length
def riseAt (l : List Int) (j : Nat) : Bool := j == 0 || decide (l.getD (j - 1) 0 < l.getD j 0)
def idAt (l : List Int) (there : List AddrD) (j : Nat) : Bool := inR (l.getD j 0) 0 255 && decide (addrAt there (l.getD j 0) < 0)
def idsOk (l : List Int) (there : List AddrD) : Bool := upto (riseAt l) l.length && upto (idAt l there) l.length
def suOk (l : List SubD) (j : Nat) : Bool := inR (subAtN l j).state 1 4 && roadN (subAtN l j).road && [(subAtN l j).mine, (subAtN l j).theirs, (subAtN l j).give, (subAtN l j).take, (subAtN l j).tries].all isN && ((subAtN l j).state == 4 || subAt l (subAtN l j).road == (j : Int))
def endOk (e : EndD) : Bool :=
  inR e.side 1 2 && inR e.state 0 2 && polOk e.policy && addrsOk e.own && addrsOk e.far && halfsOk e.halfs && bucketOk e.bucket && outOk e.out && piecesOk e.inp &&
  idsOk e.done e.own && idsOk e.over e.far && decide ((e.subs.length : Int) ≤ 8) && [e.key, e.peer, e.draw, e.now, e.pick].all isN && upto (suOk e.subs) e.subs.length
end
section
open Go.RowKit
set_option linter.unusedVariables false
set_option linter.unusedSimpArgs false
set_option maxRecDepth 10000

theorem impl_within (n a b : Int) : CallA Try.prog 165 [.sc (.int .i64 n), .sc (.int .i64 a), .sc (.int .i64 b)] [] (.sc (.bo (inR n a b))) [] := by
  refine callA_of Try.func165 (by kernel_rfl) rfl fun E hE => run_den 400 ?_
  simp (disch := omega) only [Try.ntmps165, Try.results165, go_sem, Nat.reduceEqDiff, Nat.reduceAdd, Nat.reduceSub, Int.reduceAdd, Int.reduceSub, Int.reduceToNat]
  split <;> rename_i h <;> (try simp only [beq_true, beq_false, Bool.not_eq_true', Bool.not_eq_false'] at h) <;> simp (disch := omega) only [go_sem, Nat.reduceEqDiff, Nat.reduceAdd, Nat.reduceSub, Int.reduceAdd, Int.reduceSub, Int.reduceToNat, h] <;> (try simp only [decide_eq_true_eq, decide_eq_false_iff_not, beq_iff_eq, beq_eq_false_iff_ne, bne_iff_ne, bne_eq_false_iff_eq, ne_eq, Decidable.not_not, Bool.and_eq_true, Bool.and_eq_false_iff, Bool.or_eq_true, Bool.or_eq_false_iff, Int.ofNat_lt, Int.ofNat_le, Bool.not_eq_eq_eq_not, Bool.not_true, Bool.not_false] at h) <;> try simp (disch := omega) only [go_sem, Nat.reduceEqDiff, Nat.reduceAdd, Nat.reduceSub, Int.reduceAdd, Int.reduceSub, Int.reduceToNat]
  · refine den_fin [] (trivial) _ (by simp only [go_sem]; rfl) (by rfl) (by rfl) ?_
    simp (disch := omega) only [go_sem, Nat.reduceEqDiff, Nat.reduceAdd, Nat.reduceSub, Int.reduceAdd, Int.reduceSub, Int.reduceToNat]
    simp [inR, h]
  · refine den_fin [] (trivial) _ (by simp only [go_sem]; rfl) (by rfl) (by rfl) ?_
    simp (disch := omega) only [go_sem, Nat.reduceEqDiff, Nat.reduceAdd, Nat.reduceSub, Int.reduceAdd, Int.reduceSub, Int.reduceToNat]
    simp [inR, h]
theorem spec_l01In (n a b : Int) : CallA Try.prog 162 [.sc (.int .i64 n), .sc (.int .i64 a), .sc (.int .i64 b)] [] (.sc (.bo (inR n a b))) [] := by
  refine callA_of Try.func162 (by kernel_rfl) rfl fun E hE => run_den 400 ?_
  simp (disch := omega) only [Try.ntmps162, Try.results162, go_sem, Nat.reduceEqDiff, Nat.reduceAdd, Nat.reduceSub, Int.reduceAdd, Int.reduceSub, Int.reduceToNat]
  split <;> rename_i h <;> (try simp only [beq_true, beq_false, Bool.not_eq_true', Bool.not_eq_false'] at h) <;> simp (disch := omega) only [go_sem, Nat.reduceEqDiff, Nat.reduceAdd, Nat.reduceSub, Int.reduceAdd, Int.reduceSub, Int.reduceToNat, h] <;> (try simp only [decide_eq_true_eq, decide_eq_false_iff_not, beq_iff_eq, beq_eq_false_iff_ne, bne_iff_ne, bne_eq_false_iff_eq, ne_eq, Decidable.not_not, Bool.and_eq_true, Bool.and_eq_false_iff, Bool.or_eq_true, Bool.or_eq_false_iff, Int.ofNat_lt, Int.ofNat_le, Bool.not_eq_eq_eq_not, Bool.not_true, Bool.not_false] at h) <;> try simp (disch := omega) only [go_sem, Nat.reduceEqDiff, Nat.reduceAdd, Nat.reduceSub, Int.reduceAdd, Int.reduceSub, Int.reduceToNat]
  · refine den_fin [] (trivial) _ (by simp only [go_sem]; rfl) (by rfl) (by rfl) ?_
    simp (disch := omega) only [go_sem, Nat.reduceEqDiff, Nat.reduceAdd, Nat.reduceSub, Int.reduceAdd, Int.reduceSub, Int.reduceToNat]
    simp [inR, h]
  · refine den_fin [] (trivial) _ (by simp only [go_sem]; rfl) (by rfl) (by rfl) ?_
    simp (disch := omega) only [go_sem, Nat.reduceEqDiff, Nat.reduceAdd, Nat.reduceSub, Int.reduceAdd, Int.reduceSub, Int.reduceToNat]
    simp [inR, h]
theorem spec_l14Num (n : Int) : CallA Try.prog 173 [.sc (.int .i64 n)] [] (.sc (.bo (isN n))) [] := by
  refine callA_of Try.func173 (by kernel_rfl) rfl fun E hE => run_den 400 ?_
  simp (disch := omega) only [Try.ntmps173, Try.results173, go_sem, Nat.reduceEqDiff, Nat.reduceAdd, Nat.reduceSub, Int.reduceAdd, Int.reduceSub, Int.reduceToNat]
  refine den_call (trivial) (spec_l01In _ _ _) [] (by simp only [go_sem]; repeat' first | rfl | constructor) (by rfl) (run_den 400 ?_)
  simp (disch := omega) only [go_sem, Nat.reduceEqDiff, Nat.reduceAdd, Nat.reduceSub, Int.reduceAdd, Int.reduceSub, Int.reduceToNat]
  refine den_fin [] (trivial) _ (by simp only [go_sem]; rfl) (by rfl) (by rfl) ?_
  simp (disch := omega) only [go_sem, Nat.reduceEqDiff, Nat.reduceAdd, Nat.reduceSub, Int.reduceAdd, Int.reduceSub, Int.reduceToNat]
  rfl
theorem impl_isNumber (l : List Int) (hl : l.length ≤ 1000000) : CallA Try.prog 175 [.sc (.sl 0 0 l.length)] [some ⟨l.map intC, 1, 3, false, true⟩] (.sc (.bo (l.all isN))) [some ⟨l.map intC, 1, 3, false, true⟩] := by
  refine callA_of Try.func175 (by kernel_rfl) rfl fun E hE => run_den 400 ?_
  simp (disch := omega) only [Try.ntmps175, Try.results175, go_sem, Nat.reduceEqDiff, Nat.reduceAdd, Nat.reduceSub, Int.reduceAdd, Int.reduceSub, Int.reduceToNat]
  refine den_lp 1 hE (fun s k => s.at [4, 8, 9, 10, 11, 12, 13, 14] [(7, .sc (.int .i64 (k : Nat)))] s.hp) (fun k => k ≤ l.length ∧ l.all isN = (l.drop k).all isN) (fun k => l.length - k) 0 [some (0, none)] trivial ⟨Nat.zero_le _, by simp⟩ (weak_mk (by rfl) (by rfl) ?_) fun k hk N hN => ?_
  · try simp (disch := omega) only [go_sem, Nat.reduceEqDiff, Nat.reduceAdd, Nat.reduceSub, Int.reduceAdd, Int.reduceSub, Int.reduceToNat]
  · obtain ⟨hk1, hk2⟩ := hk
    refine run_den 100 ?_
    try simp (disch := omega) only [go_sem, Nat.reduceEqDiff, Nat.reduceAdd, Nat.reduceSub, Int.reduceAdd, Int.reduceSub, Int.reduceToNat]
    split <;> rename_i h <;> (try simp only [beq_true, beq_false, Bool.not_eq_true', Bool.not_eq_false'] at h) <;> simp (disch := omega) only [go_sem, Nat.reduceEqDiff, Nat.reduceAdd, Nat.reduceSub, Int.reduceAdd, Int.reduceSub, Int.reduceToNat, h] <;> (try simp only [decide_eq_true_eq, decide_eq_false_iff_not, beq_iff_eq, beq_eq_false_iff_ne, bne_iff_ne, bne_eq_false_iff_eq, ne_eq, Decidable.not_not, Bool.and_eq_true, Bool.and_eq_false_iff, Bool.or_eq_true, Bool.or_eq_false_iff, Int.ofNat_lt, Int.ofNat_le, Bool.not_eq_eq_eq_not, Bool.not_true, Bool.not_false] at h) <;> try simp (disch := omega) only [go_sem, Nat.reduceEqDiff, Nat.reduceAdd, Nat.reduceSub, Int.reduceAdd, Int.reduceSub, Int.reduceToNat]
    · try simp (disch := omega) only [go_sem, Nat.reduceEqDiff, Nat.reduceAdd, Nat.reduceSub, Int.reduceAdd, Int.reduceSub, Int.reduceToNat, ints_get h]
      refine den_call (by omega) (impl_within _ _ _) [] (by simp only [go_sem]; repeat' first | rfl | constructor) (by rfl) (run_den 400 ?_)
      simp (disch := omega) only [go_sem, Nat.reduceEqDiff, Nat.reduceAdd, Nat.reduceSub, Int.reduceAdd, Int.reduceSub, Int.reduceToNat]
      rw [List.drop_eq_getElem_cons h, List.all_cons] at hk2
      split <;> rename_i h2 <;> (try simp only [beq_true, beq_false, Bool.not_eq_true', Bool.not_eq_false'] at h2) <;> simp (disch := omega) only [go_sem, Nat.reduceEqDiff, Nat.reduceAdd, Nat.reduceSub, Int.reduceAdd, Int.reduceSub, Int.reduceToNat, h2] <;> (try simp only [decide_eq_true_eq, decide_eq_false_iff_not, beq_iff_eq, beq_eq_false_iff_ne, bne_iff_ne, bne_eq_false_iff_eq, ne_eq, Decidable.not_not, Bool.and_eq_true, Bool.and_eq_false_iff, Bool.or_eq_true, Bool.or_eq_false_iff, Int.ofNat_lt, Int.ofNat_le, Bool.not_eq_eq_eq_not, Bool.not_true, Bool.not_false] at h2) <;> try simp (disch := omega) only [go_sem, Nat.reduceEqDiff, Nat.reduceAdd, Nat.reduceSub, Int.reduceAdd, Int.reduceSub, Int.reduceToNat]
      · refine den_fin [some (0, none)] (trivial) _ (by simp only [go_sem]; rfl) (by rfl) (by rfl) ?_
        simp (disch := omega) only [go_sem, Nat.reduceEqDiff, Nat.reduceAdd, Nat.reduceSub, Int.reduceAdd, Int.reduceSub, Int.reduceToNat]
        have : isN l[k] = false := by simp [isN, inR] at h2 ⊢; omega
        rw [hk2, this, Bool.false_and]
      · refine ⟨trivial, hN _ (k + 1) [some (0, none)] (⟨by omega, ?_⟩) (by (try dsimp only); omega) (weak_mk (by rfl) (by rfl) ?_)⟩
        · have : isN l[k] = true := by simp [isN, inR] at h2 ⊢; omega
          rw [hk2, this, Bool.true_and]
        · try simp (disch := omega) only [go_sem, Nat.reduceEqDiff, Nat.reduceAdd, Nat.reduceSub, Int.reduceAdd, Int.reduceSub, Int.reduceToNat]
    · refine den_fin [some (0, none)] (trivial) _ (by simp only [go_sem]; rfl) (by rfl) (by rfl) ?_
      simp (disch := omega) only [go_sem, Nat.reduceEqDiff, Nat.reduceAdd, Nat.reduceSub, Int.reduceAdd, Int.reduceSub, Int.reduceToNat]
      rw [hk2, List.drop_eq_nil_of_le (by omega), List.all_nil]
end
section
open Go.RowKit
set_option linter.unusedVariables false
set_option linter.unusedSimpArgs false
set_option maxRecDepth 20000

end
section
open Go.RowKit
set_option linter.unusedVariables false
set_option linter.unusedSimpArgs false
set_option maxRecDepth 20000

theorem impl_OnOf (e : EndD) (hl : e.subs.length ≤ 1048576) : CallA Try.prog 128 [.ag (e.cs 0)] (e.hp false) (.sc (.sl 7 0 (onN e.subs).length)) (e.hp false ++ [some ⟨(onN e.subs).map natC, 1, 3, true, true⟩]) := by
  refine callA_of Try.func128 (by kernel_rfl) rfl fun E hE => run_den 400 ?_
  simp (disch := omega) only [Try.ntmps128, Try.results128, go_sem, Nat.reduceEqDiff, Nat.reduceAdd, Nat.reduceSub, Int.reduceAdd, Int.reduceSub, Int.reduceToNat]
  refine den_lp 7 hE (fun s (x : Nat × List Nat) => s.at [0, 1, 4, 5, 6, 10, 11, 12, 13, 14, 15, 16, 17, 18, 19, 20, 21] [(9, .sc (.int .i64 (x.1 : Nat))), (3, .sc (.sl 8 0 x.2.length))] (e.hp false ++ [some ⟨[e.cs 0], 25, 67, true, false⟩, some ⟨x.2.map natC, 1, 3, true, true⟩])) (fun (x : Nat × List Nat) => x.1 ≤ e.subs.length ∧ x.2.length ≤ x.1 ∧ x.2 ++ onGo x.1 (e.subs.drop x.1) = onN e.subs) (fun (x : Nat × List Nat) => e.subs.length - x.1) (0, []) [some (0, none), some (1, none), some (2, none), some (3, none), some (4, none), some (5, none), some (6, none), some (7, none), none] (by (try simp (disch := omega) only [go_sem, Nat.reduceEqDiff, Nat.reduceAdd, Nat.reduceSub, Int.reduceAdd, Int.reduceSub, Int.reduceToNat]) <;> omega) (⟨Nat.zero_le _, Nat.zero_le _, rfl⟩) (weak_mk (by rfl) (by rfl) ?_) fun x hx N hN => ?_
  · try simp (disch := omega) only [go_sem, Nat.reduceEqDiff, Nat.reduceAdd, Nat.reduceSub, Int.reduceAdd, Int.reduceSub, Int.reduceToNat]
  · obtain ⟨k, acc⟩ := x
    obtain ⟨hk1, hk2, hk3⟩ := hx
    dsimp only at hk1 hk2 hk3
    refine run_den 400 ?_
    try simp (disch := omega) only [go_sem, Nat.reduceEqDiff, Nat.reduceAdd, Nat.reduceSub, Int.reduceAdd, Int.reduceSub, Int.reduceToNat]
    split <;> rename_i h <;> (try simp only [beq_true, beq_false, Bool.not_eq_true', Bool.not_eq_false'] at h) <;> simp (disch := omega) only [go_sem, Nat.reduceEqDiff, Nat.reduceAdd, Nat.reduceSub, Int.reduceAdd, Int.reduceSub, Int.reduceToNat, h] <;> (try simp only [decide_eq_true_eq, decide_eq_false_iff_not, beq_iff_eq, beq_eq_false_iff_ne, bne_iff_ne, bne_eq_false_iff_eq, ne_eq, Decidable.not_not, Bool.and_eq_true, Bool.and_eq_false_iff, Bool.or_eq_true, Bool.or_eq_false_iff, Int.ofNat_lt, Int.ofNat_le, Bool.not_eq_eq_eq_not, Bool.not_true, Bool.not_false] at h) <;> try simp (disch := omega) only [go_sem, Nat.reduceEqDiff, Nat.reduceAdd, Nat.reduceSub, Int.reduceAdd, Int.reduceSub, Int.reduceToNat]
    · rw [onGo_step h] at hk3
      try simp (disch := omega) only [go_sem, Nat.reduceEqDiff, Nat.reduceAdd, Nat.reduceSub, Int.reduceAdd, Int.reduceSub, Int.reduceToNat]
      split <;> rename_i h2 <;> (try simp only [beq_true, beq_false, Bool.not_eq_true', Bool.not_eq_false'] at h2) <;> simp (disch := omega) only [go_sem, Nat.reduceEqDiff, Nat.reduceAdd, Nat.reduceSub, Int.reduceAdd, Int.reduceSub, Int.reduceToNat, h2] <;> (try simp only [decide_eq_true_eq, decide_eq_false_iff_not, beq_iff_eq, beq_eq_false_iff_ne, bne_iff_ne, bne_eq_false_iff_eq, ne_eq, Decidable.not_not, Bool.and_eq_true, Bool.and_eq_false_iff, Bool.or_eq_true, Bool.or_eq_false_iff, Int.ofNat_lt, Int.ofNat_le, Bool.not_eq_eq_eq_not, Bool.not_true, Bool.not_false] at h2) <;> try simp (disch := omega) only [go_sem, Nat.reduceEqDiff, Nat.reduceAdd, Nat.reduceSub, Int.reduceAdd, Int.reduceSub, Int.reduceToNat]
      · rw [if_pos h2] at hk3
        refine ⟨by (try simp (disch := omega) only [go_sem, Nat.reduceEqDiff, Nat.reduceAdd, Nat.reduceSub, Int.reduceAdd, Int.reduceSub, Int.reduceToNat]) <;> omega, hN _ (k + 1, acc ++ [k]) [some (0, none), some (1, none), some (2, none), some (3, none), some (4, none), some (5, none), some (6, none), some (7, none), some (11, none)] (by (try dsimp only); exact ⟨by omega, by simp; omega, by simpa using hk3⟩) (by (try dsimp only); omega) (weak_mk (by rfl) (by rfl) ?_)⟩
        try simp (disch := omega) only [go_sem, Nat.reduceEqDiff, Nat.reduceAdd, Nat.reduceSub, Int.reduceAdd, Int.reduceSub, Int.reduceToNat]
        simp [natC]
      · rw [if_neg h2] at hk3
        refine ⟨by (try simp (disch := omega) only [go_sem, Nat.reduceEqDiff, Nat.reduceAdd, Nat.reduceSub, Int.reduceAdd, Int.reduceSub, Int.reduceToNat]) <;> omega, hN _ (k + 1, acc) [some (0, none), some (1, none), some (2, none), some (3, none), some (4, none), some (5, none), some (6, none), some (7, none), some (8, none)] (by (try dsimp only); exact ⟨by omega, by omega, hk3⟩) (by (try dsimp only); omega) (weak_mk (by rfl) (by rfl) ?_)⟩
        try simp (disch := omega) only [go_sem, Nat.reduceEqDiff, Nat.reduceAdd, Nat.reduceSub, Int.reduceAdd, Int.reduceSub, Int.reduceToNat]
    · rw [List.drop_eq_nil_of_le (by omega), onGo, List.append_nil] at hk3
      subst hk3
      refine den_fin [some (0, none), some (1, none), some (2, none), some (3, none), some (4, none), some (5, none), some (6, none), some (8, none)] (by (try simp (disch := omega) only [go_sem, Nat.reduceEqDiff, Nat.reduceAdd, Nat.reduceSub, Int.reduceAdd, Int.reduceSub, Int.reduceToNat]) <;> omega) _ (by simp only [go_sem]; rfl) (by rfl) (by rfl) ?_
      simp (disch := omega) only [go_sem, Nat.reduceEqDiff, Nat.reduceAdd, Nat.reduceSub, Int.reduceAdd, Int.reduceSub, Int.reduceToNat]
theorem spec_OnOf (e : EndD) (hl : e.subs.length ≤ 1048576) : CallA Try.prog 130 [.ag (e.cs 0)] (e.hp false) (.sc (.sl 7 0 (onN e.subs).length)) (e.hp false ++ [some ⟨(onN e.subs).map natC, 1, 3, true, true⟩]) := by
  refine callA_of Try.func130 (by kernel_rfl) rfl fun E hE => run_den 400 ?_
  simp (disch := omega) only [Try.ntmps130, Try.results130, go_sem, Nat.reduceEqDiff, Nat.reduceAdd, Nat.reduceSub, Int.reduceAdd, Int.reduceSub, Int.reduceToNat]
  refine den_lp 7 hE (fun s (x : Nat × List Nat) => s.at [0, 5, 6, 7, 8, 9, 10, 11, 12, 13, 14, 15, 16, 17, 18, 19, 20, 21, 22, 23] [(4, .sc (.int .i64 (x.1 : Nat))), (3, .sc (.sl 8 0 x.2.length))] (e.hp false ++ [some ⟨[e.cs 0], 25, 67, true, false⟩, some ⟨x.2.map natC, 1, 3, true, true⟩])) (fun (x : Nat × List Nat) => x.1 ≤ e.subs.length ∧ x.2.length ≤ x.1 ∧ x.2 ++ onGo x.1 (e.subs.drop x.1) = onN e.subs) (fun (x : Nat × List Nat) => e.subs.length - x.1) (0, []) [some (0, none), some (1, none), some (2, none), some (3, none), some (4, none), some (5, none), some (6, none), some (7, none), some (8, none)] (by (try simp (disch := omega) only [go_sem, Nat.reduceEqDiff, Nat.reduceAdd, Nat.reduceSub, Int.reduceAdd, Int.reduceSub, Int.reduceToNat]) <;> omega) (⟨Nat.zero_le _, Nat.zero_le _, rfl⟩) (weak_mk (by rfl) (by rfl) ?_) fun x hx N hN => ?_
  · try simp (disch := omega) only [go_sem, Nat.reduceEqDiff, Nat.reduceAdd, Nat.reduceSub, Int.reduceAdd, Int.reduceSub, Int.reduceToNat]
  · obtain ⟨k, acc⟩ := x
    obtain ⟨hk1, hk2, hk3⟩ := hx
    dsimp only at hk1 hk2 hk3
    refine run_den 400 ?_
    try simp (disch := omega) only [go_sem, Nat.reduceEqDiff, Nat.reduceAdd, Nat.reduceSub, Int.reduceAdd, Int.reduceSub, Int.reduceToNat]
    split <;> rename_i h <;> (try simp only [beq_true, beq_false, Bool.not_eq_true', Bool.not_eq_false'] at h) <;> simp (disch := omega) only [go_sem, Nat.reduceEqDiff, Nat.reduceAdd, Nat.reduceSub, Int.reduceAdd, Int.reduceSub, Int.reduceToNat, h] <;> (try simp only [decide_eq_true_eq, decide_eq_false_iff_not, beq_iff_eq, beq_eq_false_iff_ne, bne_iff_ne, bne_eq_false_iff_eq, ne_eq, Decidable.not_not, Bool.and_eq_true, Bool.and_eq_false_iff, Bool.or_eq_true, Bool.or_eq_false_iff, Int.ofNat_lt, Int.ofNat_le, Bool.not_eq_eq_eq_not, Bool.not_true, Bool.not_false] at h) <;> try simp (disch := omega) only [go_sem, Nat.reduceEqDiff, Nat.reduceAdd, Nat.reduceSub, Int.reduceAdd, Int.reduceSub, Int.reduceToNat]
    · rw [onGo_step h] at hk3
      try simp (disch := omega) only [go_sem, Nat.reduceEqDiff, Nat.reduceAdd, Nat.reduceSub, Int.reduceAdd, Int.reduceSub, Int.reduceToNat]
      split <;> rename_i h2 <;> (try simp only [beq_true, beq_false, Bool.not_eq_true', Bool.not_eq_false'] at h2) <;> simp (disch := omega) only [go_sem, Nat.reduceEqDiff, Nat.reduceAdd, Nat.reduceSub, Int.reduceAdd, Int.reduceSub, Int.reduceToNat, h2] <;> (try simp only [decide_eq_true_eq, decide_eq_false_iff_not, beq_iff_eq, beq_eq_false_iff_ne, bne_iff_ne, bne_eq_false_iff_eq, ne_eq, Decidable.not_not, Bool.and_eq_true, Bool.and_eq_false_iff, Bool.or_eq_true, Bool.or_eq_false_iff, Int.ofNat_lt, Int.ofNat_le, Bool.not_eq_eq_eq_not, Bool.not_true, Bool.not_false] at h2) <;> try simp (disch := omega) only [go_sem, Nat.reduceEqDiff, Nat.reduceAdd, Nat.reduceSub, Int.reduceAdd, Int.reduceSub, Int.reduceToNat]
      · rw [if_pos h2] at hk3
        refine ⟨by (try simp (disch := omega) only [go_sem, Nat.reduceEqDiff, Nat.reduceAdd, Nat.reduceSub, Int.reduceAdd, Int.reduceSub, Int.reduceToNat]) <;> omega, hN _ (k + 1, acc ++ [k]) [some (0, none), some (1, none), some (2, none), some (3, none), some (4, none), some (5, none), some (6, none), some (7, none), some (10, none)] (by (try dsimp only); exact ⟨by omega, by simp; omega, by simpa using hk3⟩) (by (try dsimp only); omega) (weak_mk (by rfl) (by rfl) ?_)⟩
        try simp (disch := omega) only [go_sem, Nat.reduceEqDiff, Nat.reduceAdd, Nat.reduceSub, Int.reduceAdd, Int.reduceSub, Int.reduceToNat]
        simp [natC]
      · rw [if_neg h2] at hk3
        refine ⟨by (try simp (disch := omega) only [go_sem, Nat.reduceEqDiff, Nat.reduceAdd, Nat.reduceSub, Int.reduceAdd, Int.reduceSub, Int.reduceToNat]) <;> omega, hN _ (k + 1, acc) [some (0, none), some (1, none), some (2, none), some (3, none), some (4, none), some (5, none), some (6, none), some (7, none), some (8, none)] (by (try dsimp only); exact ⟨by omega, by omega, hk3⟩) (by (try dsimp only); omega) (weak_mk (by rfl) (by rfl) ?_)⟩
        try simp (disch := omega) only [go_sem, Nat.reduceEqDiff, Nat.reduceAdd, Nat.reduceSub, Int.reduceAdd, Int.reduceSub, Int.reduceToNat]
    · rw [List.drop_eq_nil_of_le (by omega), onGo, List.append_nil] at hk3
      subst hk3
      refine den_fin [some (0, none), some (1, none), some (2, none), some (3, none), some (4, none), some (5, none), some (6, none), some (8, none)] (by (try simp (disch := omega) only [go_sem, Nat.reduceEqDiff, Nat.reduceAdd, Nat.reduceSub, Int.reduceAdd, Int.reduceSub, Int.reduceToNat]) <;> omega) _ (by simp only [go_sem]; rfl) (by rfl) (by rfl) ?_
      simp (disch := omega) only [go_sem, Nat.reduceEqDiff, Nat.reduceAdd, Nat.reduceSub, Int.reduceAdd, Int.reduceSub, Int.reduceToNat]
theorem eqOk_Road (a b c a' b' c' : Int) : EqOk Try.prog 137 [.int .i64 a, .int .i64 b, .int .i64 c] [.int .i64 a', .int .i64 b', .int .i64 c'] = True := by
  refine eq_true fun β w x y vs us hv hu => ?_
  obtain ⟨v0, v1, v2, rfl⟩ : ∃ v0 v1 v2, vs = [v0, v1, v2] := by
    match vs, hv with
    | [v0, v1, v2], _ => exact ⟨_, _, _, rfl⟩
  obtain ⟨u0, u1, u2, rfl⟩ : ∃ v0 v1 v2, us = [v0, v1, v2] := by
    match us, hu with
    | [v0, v1, v2], _ => exact ⟨_, _, _, rfl⟩
  obtain ⟨rfl, rfl, rfl, _⟩ := hv
  obtain ⟨rfl, rfl, rfl, _⟩ := hu
  have hu3 := Try.underlying3
  have hg := Try.eqGuardType137
  have hs := Try.stoodInHeld137
  have hU : Try.prog.underlying 137 = some (.struct (Try.prog.fieldsOf 137)) := by
    simp only [Program.fieldsOf, Try.underlying137]
  have key : ∀ q : Bool, q = scsEq [Sc.int IntKind.i64 a, Sc.int IntKind.i64 b, Sc.int IntKind.i64 c] [Sc.int IntKind.i64 a', Sc.int IntKind.i64 b', Sc.int IntKind.i64 c'] ↔ q = (decide (a = a') && (decide (b = b') && decide (c = c'))) := by
    intro q
    simp only [scsEq, scEq, Bool.and_true]
    have e : ∀ m n : Int, (m == n) = decide (m = n) := fun m n => by by_cases h : m = n <;> simp [h]
    rw [e, e, e]
  have kk := (key _).1 rfl
  rw [kk]
  constructor
  · simp only [Sem.run_bind, run_eqGuard_agg _ _ _ _ _ _ _ hg, run_eql_struct, Result.andThen_ok, run_equalIn_agg _ _ _ _ _ hU hs]
    simp [Op.eqFields, Program.fieldsOf, Try.underlying137, part, run_equalIn_int _ _ _ _ _ _ _ hu3]
    by_cases h1 : a = a' <;> by_cases h2 : b = b' <;> by_cases h3 : c = c' <;> simp [h1, h2, h3]
  · simp only [Sem.run_bind, run_eqGuard_agg _ _ _ _ _ _ _ hg, run_neq_struct, Result.andThen_ok, run_equalIn_agg _ _ _ _ _ hU hs]
    simp [Op.eqFields, Program.fieldsOf, Try.underlying137, part, run_equalIn_int _ _ _ _ _ _ _ hu3]
    by_cases h1 : a = a' <;> by_cases h2 : b = b' <;> by_cases h3 : c = c' <;> simp [h1, h2, h3]
attribute [go_sem] eqOk_Road
end
section
open Go.RowKit
set_option linter.unusedVariables false
set_option linter.unusedSimpArgs false
set_option maxRecDepth 20000

theorem filter_step {α : Type} {p : α → Bool} {l : List α} {k : Nat} (h : k < l.length) : (l.drop k).filter p = if p l[k] then l[k] :: (l.drop (k + 1)).filter p else (l.drop (k + 1)).filter p := by
  rw [List.drop_eq_getElem_cons h, List.filter_cons]
theorem roadEq_t {a b : RoadD} (h : a.own = b.own ∧ a.far = b.far ∧ a.port = b.port) : roadEq a b = true := by simp [roadEq, h]
theorem roadEq_f {a b : RoadD} (h : ¬ a.own = b.own ∨ ¬ a.far = b.far ∨ ¬ a.port = b.port) : roadEq a b = false := by
  rw [roadEq]
  rcases h with h | h | h <;> simp [h]
end
section
open Go.RowKit
set_option linter.unusedVariables false
set_option linter.unusedSimpArgs false
set_option maxRecDepth 10000

end
section
open Go.RowKit
set_option linter.unusedVariables false
set_option linter.unusedSimpArgs false
set_option maxRecDepth 10000

end
section
open Go.RowKit
set_option linter.unusedVariables false
set_option linter.unusedSimpArgs false
set_option maxRecDepth 10000

end
section
open Go.RowKit
set_option linter.unusedVariables false
set_option linter.unusedSimpArgs false
set_option maxRecDepth 10000

end
section
open Go.RowKit
set_option linter.unusedVariables false
set_option linter.unusedSimpArgs false
set_option maxRecDepth 10000

end
section
open Go.RowKit
set_option linter.unusedVariables false
set_option linter.unusedSimpArgs false
set_option maxRecDepth 10000

theorem impl_PolicyOk (p : PolicyD) : CallA Try.prog 178 [.ag p.cs] [] (.sc (.bo (polOk p))) [] := by
  refine callA_of Try.func178 (by kernel_rfl) rfl fun E hE => run_den 400 ?_
  simp (disch := omega) only [Try.ntmps178, Try.results178, go_sem, Nat.reduceEqDiff, Nat.reduceAdd, Nat.reduceSub, Int.reduceAdd, Int.reduceSub, Int.reduceToNat]
  split <;> rename_i h1 <;> (try simp only [beq_true, beq_false, Bool.not_eq_true', Bool.not_eq_false'] at h1) <;> simp (disch := omega) only [go_sem, Nat.reduceEqDiff, Nat.reduceAdd, Nat.reduceSub, Int.reduceAdd, Int.reduceSub, Int.reduceToNat, h1] <;> (try simp only [decide_eq_true_eq, decide_eq_false_iff_not, beq_iff_eq, beq_eq_false_iff_ne, bne_iff_ne, bne_eq_false_iff_eq, ne_eq, Decidable.not_not, Bool.and_eq_true, Bool.and_eq_false_iff, Bool.or_eq_true, Bool.or_eq_false_iff, Int.ofNat_lt, Int.ofNat_le, Bool.not_eq_eq_eq_not, Bool.not_true, Bool.not_false] at h1) <;> try simp (disch := omega) only [go_sem, Nat.reduceEqDiff, Nat.reduceAdd, Nat.reduceSub, Int.reduceAdd, Int.reduceSub, Int.reduceToNat]
  · refine den_call (by (try simp (disch := omega) only [go_sem, Nat.reduceEqDiff, Nat.reduceAdd, Nat.reduceSub, Int.reduceAdd, Int.reduceSub, Int.reduceToNat]) <;> omega) (impl_within _ _ _) [] (by simp only [go_sem]; repeat' first | rfl | constructor) (by rfl) (run_den 400 ?_)
    simp (disch := omega) only [go_sem, Nat.reduceEqDiff, Nat.reduceAdd, Nat.reduceSub, Int.reduceAdd, Int.reduceSub, Int.reduceToNat]
    refine den_fin [] (by (try simp (disch := omega) only [go_sem, Nat.reduceEqDiff, Nat.reduceAdd, Nat.reduceSub, Int.reduceAdd, Int.reduceSub, Int.reduceToNat]) <;> omega) _ (by simp only [go_sem]; rfl) (by rfl) (by rfl) ?_
    simp (disch := omega) only [go_sem, Nat.reduceEqDiff, Nat.reduceAdd, Nat.reduceSub, Int.reduceAdd, Int.reduceSub, Int.reduceToNat]
    simp [polOk, h1]
  · split <;> rename_i h2 <;> (try simp only [beq_true, beq_false, Bool.not_eq_true', Bool.not_eq_false'] at h2) <;> simp (disch := omega) only [go_sem, Nat.reduceEqDiff, Nat.reduceAdd, Nat.reduceSub, Int.reduceAdd, Int.reduceSub, Int.reduceToNat, h2] <;> (try simp only [decide_eq_true_eq, decide_eq_false_iff_not, beq_iff_eq, beq_eq_false_iff_ne, bne_iff_ne, bne_eq_false_iff_eq, ne_eq, Decidable.not_not, Bool.and_eq_true, Bool.and_eq_false_iff, Bool.or_eq_true, Bool.or_eq_false_iff, Int.ofNat_lt, Int.ofNat_le, Bool.not_eq_eq_eq_not, Bool.not_true, Bool.not_false] at h2) <;> try simp (disch := omega) only [go_sem, Nat.reduceEqDiff, Nat.reduceAdd, Nat.reduceSub, Int.reduceAdd, Int.reduceSub, Int.reduceToNat]
    · split <;> rename_i h3 <;> (try simp only [beq_true, beq_false, Bool.not_eq_true', Bool.not_eq_false'] at h3) <;> simp (disch := omega) only [go_sem, Nat.reduceEqDiff, Nat.reduceAdd, Nat.reduceSub, Int.reduceAdd, Int.reduceSub, Int.reduceToNat, h3] <;> (try simp only [decide_eq_true_eq, decide_eq_false_iff_not, beq_iff_eq, beq_eq_false_iff_ne, bne_iff_ne, bne_eq_false_iff_eq, ne_eq, Decidable.not_not, Bool.and_eq_true, Bool.and_eq_false_iff, Bool.or_eq_true, Bool.or_eq_false_iff, Int.ofNat_lt, Int.ofNat_le, Bool.not_eq_eq_eq_not, Bool.not_true, Bool.not_false] at h3) <;> try simp (disch := omega) only [go_sem, Nat.reduceEqDiff, Nat.reduceAdd, Nat.reduceSub, Int.reduceAdd, Int.reduceSub, Int.reduceToNat]
      · refine den_fin [] (by (try simp (disch := omega) only [go_sem, Nat.reduceEqDiff, Nat.reduceAdd, Nat.reduceSub, Int.reduceAdd, Int.reduceSub, Int.reduceToNat]) <;> omega) _ (by simp only [go_sem]; rfl) (by rfl) (by rfl) ?_
        simp (disch := omega) only [go_sem, Nat.reduceEqDiff, Nat.reduceAdd, Nat.reduceSub, Int.reduceAdd, Int.reduceSub, Int.reduceToNat]
        simp [polOk, h1, h2, h3]
      · refine den_fin [] (by (try simp (disch := omega) only [go_sem, Nat.reduceEqDiff, Nat.reduceAdd, Nat.reduceSub, Int.reduceAdd, Int.reduceSub, Int.reduceToNat]) <;> omega) _ (by simp only [go_sem]; rfl) (by rfl) (by rfl) ?_
        simp (disch := omega) only [go_sem, Nat.reduceEqDiff, Nat.reduceAdd, Nat.reduceSub, Int.reduceAdd, Int.reduceSub, Int.reduceToNat]
        simp [polOk, h1, h2, h3]
    · refine den_fin [] (by (try simp (disch := omega) only [go_sem, Nat.reduceEqDiff, Nat.reduceAdd, Nat.reduceSub, Int.reduceAdd, Int.reduceSub, Int.reduceToNat]) <;> omega) _ (by simp only [go_sem]; rfl) (by rfl) (by rfl) ?_
      simp (disch := omega) only [go_sem, Nat.reduceEqDiff, Nat.reduceAdd, Nat.reduceSub, Int.reduceAdd, Int.reduceSub, Int.reduceToNat]
      simp [polOk, h1, h2]
theorem spec_PolicyOk (p : PolicyD) : CallA Try.prog 176 [.ag p.cs] [] (.sc (.bo (polOk p))) [] := by
  refine callA_of Try.func176 (by kernel_rfl) rfl fun E hE => run_den 400 ?_
  simp (disch := omega) only [Try.ntmps176, Try.results176, go_sem, Nat.reduceEqDiff, Nat.reduceAdd, Nat.reduceSub, Int.reduceAdd, Int.reduceSub, Int.reduceToNat]
  split <;> rename_i h1 <;> (try simp only [beq_true, beq_false, Bool.not_eq_true', Bool.not_eq_false'] at h1) <;> simp (disch := omega) only [go_sem, Nat.reduceEqDiff, Nat.reduceAdd, Nat.reduceSub, Int.reduceAdd, Int.reduceSub, Int.reduceToNat, h1] <;> (try simp only [decide_eq_true_eq, decide_eq_false_iff_not, beq_iff_eq, beq_eq_false_iff_ne, bne_iff_ne, bne_eq_false_iff_eq, ne_eq, Decidable.not_not, Bool.and_eq_true, Bool.and_eq_false_iff, Bool.or_eq_true, Bool.or_eq_false_iff, Int.ofNat_lt, Int.ofNat_le, Bool.not_eq_eq_eq_not, Bool.not_true, Bool.not_false] at h1) <;> try simp (disch := omega) only [go_sem, Nat.reduceEqDiff, Nat.reduceAdd, Nat.reduceSub, Int.reduceAdd, Int.reduceSub, Int.reduceToNat]
  · refine den_call (by (try simp (disch := omega) only [go_sem, Nat.reduceEqDiff, Nat.reduceAdd, Nat.reduceSub, Int.reduceAdd, Int.reduceSub, Int.reduceToNat]) <;> omega) (spec_l01In _ _ _) [] (by simp only [go_sem]; repeat' first | rfl | constructor) (by rfl) (run_den 400 ?_)
    simp (disch := omega) only [go_sem, Nat.reduceEqDiff, Nat.reduceAdd, Nat.reduceSub, Int.reduceAdd, Int.reduceSub, Int.reduceToNat]
    refine den_fin [] (by (try simp (disch := omega) only [go_sem, Nat.reduceEqDiff, Nat.reduceAdd, Nat.reduceSub, Int.reduceAdd, Int.reduceSub, Int.reduceToNat]) <;> omega) _ (by simp only [go_sem]; rfl) (by rfl) (by rfl) ?_
    simp (disch := omega) only [go_sem, Nat.reduceEqDiff, Nat.reduceAdd, Nat.reduceSub, Int.reduceAdd, Int.reduceSub, Int.reduceToNat]
    simp [polOk, h1]
  · split <;> rename_i h2 <;> (try simp only [beq_true, beq_false, Bool.not_eq_true', Bool.not_eq_false'] at h2) <;> simp (disch := omega) only [go_sem, Nat.reduceEqDiff, Nat.reduceAdd, Nat.reduceSub, Int.reduceAdd, Int.reduceSub, Int.reduceToNat, h2] <;> (try simp only [decide_eq_true_eq, decide_eq_false_iff_not, beq_iff_eq, beq_eq_false_iff_ne, bne_iff_ne, bne_eq_false_iff_eq, ne_eq, Decidable.not_not, Bool.and_eq_true, Bool.and_eq_false_iff, Bool.or_eq_true, Bool.or_eq_false_iff, Int.ofNat_lt, Int.ofNat_le, Bool.not_eq_eq_eq_not, Bool.not_true, Bool.not_false] at h2) <;> try simp (disch := omega) only [go_sem, Nat.reduceEqDiff, Nat.reduceAdd, Nat.reduceSub, Int.reduceAdd, Int.reduceSub, Int.reduceToNat]
    · split <;> rename_i h3 <;> (try simp only [beq_true, beq_false, Bool.not_eq_true', Bool.not_eq_false'] at h3) <;> simp (disch := omega) only [go_sem, Nat.reduceEqDiff, Nat.reduceAdd, Nat.reduceSub, Int.reduceAdd, Int.reduceSub, Int.reduceToNat, h3] <;> (try simp only [decide_eq_true_eq, decide_eq_false_iff_not, beq_iff_eq, beq_eq_false_iff_ne, bne_iff_ne, bne_eq_false_iff_eq, ne_eq, Decidable.not_not, Bool.and_eq_true, Bool.and_eq_false_iff, Bool.or_eq_true, Bool.or_eq_false_iff, Int.ofNat_lt, Int.ofNat_le, Bool.not_eq_eq_eq_not, Bool.not_true, Bool.not_false] at h3) <;> try simp (disch := omega) only [go_sem, Nat.reduceEqDiff, Nat.reduceAdd, Nat.reduceSub, Int.reduceAdd, Int.reduceSub, Int.reduceToNat]
      · refine den_fin [] (by (try simp (disch := omega) only [go_sem, Nat.reduceEqDiff, Nat.reduceAdd, Nat.reduceSub, Int.reduceAdd, Int.reduceSub, Int.reduceToNat]) <;> omega) _ (by simp only [go_sem]; rfl) (by rfl) (by rfl) ?_
        simp (disch := omega) only [go_sem, Nat.reduceEqDiff, Nat.reduceAdd, Nat.reduceSub, Int.reduceAdd, Int.reduceSub, Int.reduceToNat]
        simp [polOk, h1, h2, h3]
      · refine den_fin [] (by (try simp (disch := omega) only [go_sem, Nat.reduceEqDiff, Nat.reduceAdd, Nat.reduceSub, Int.reduceAdd, Int.reduceSub, Int.reduceToNat]) <;> omega) _ (by simp only [go_sem]; rfl) (by rfl) (by rfl) ?_
        simp (disch := omega) only [go_sem, Nat.reduceEqDiff, Nat.reduceAdd, Nat.reduceSub, Int.reduceAdd, Int.reduceSub, Int.reduceToNat]
        simp [polOk, h1, h2, h3]
    · refine den_fin [] (by (try simp (disch := omega) only [go_sem, Nat.reduceEqDiff, Nat.reduceAdd, Nat.reduceSub, Int.reduceAdd, Int.reduceSub, Int.reduceToNat]) <;> omega) _ (by simp only [go_sem]; rfl) (by rfl) (by rfl) ?_
      simp (disch := omega) only [go_sem, Nat.reduceEqDiff, Nat.reduceAdd, Nat.reduceSub, Int.reduceAdd, Int.reduceSub, Int.reduceToNat]
      simp [polOk, h1, h2]
end
section
open Go.RowKit
set_option linter.unusedVariables false
set_option linter.unusedSimpArgs false
set_option maxRecDepth 20000

theorem impl_NextOf (p : PiecesD) : CallA Try.prog 142 [.ag (p.cs 0)] (p.hp false) (.sc (.int .i64 (nextOf p))) (p.hp false) := by
  refine callA_of Try.func142 (by kernel_rfl) rfl fun E hE => run_den 400 ?_
  simp (disch := omega) only [Try.ntmps142, Try.results142, go_sem, Nat.reduceEqDiff, Nat.reduceAdd, Nat.reduceSub, Int.reduceAdd, Int.reduceSub, Int.reduceToNat]
  refine den_fin [some (0, none)] (by (try simp (disch := omega) only [go_sem, Nat.reduceEqDiff, Nat.reduceAdd, Nat.reduceSub, Int.reduceAdd, Int.reduceSub, Int.reduceToNat]) <;> omega) _ (by simp only [go_sem]; rfl) (by rfl) (by rfl) ?_
  simp (disch := omega) only [go_sem, Nat.reduceEqDiff, Nat.reduceAdd, Nat.reduceSub, Int.reduceAdd, Int.reduceSub, Int.reduceToNat]
  try rfl
theorem spec_NextOf (p : PiecesD) : CallA Try.prog 139 [.ag (p.cs 0)] (p.hp false) (.sc (.int .i64 (nextOf p))) (p.hp false) := by
  refine callA_of Try.func139 (by kernel_rfl) rfl fun E hE => run_den 400 ?_
  simp (disch := omega) only [Try.ntmps139, Try.results139, go_sem, Nat.reduceEqDiff, Nat.reduceAdd, Nat.reduceSub, Int.reduceAdd, Int.reduceSub, Int.reduceToNat]
  refine den_fin [some (0, none)] (by (try simp (disch := omega) only [go_sem, Nat.reduceEqDiff, Nat.reduceAdd, Nat.reduceSub, Int.reduceAdd, Int.reduceSub, Int.reduceToNat]) <;> omega) _ (by simp only [go_sem]; rfl) (by rfl) (by rfl) ?_
  simp (disch := omega) only [go_sem, Nat.reduceEqDiff, Nat.reduceAdd, Nat.reduceSub, Int.reduceAdd, Int.reduceSub, Int.reduceToNat]
  try rfl
end
section
open Go.RowKit
set_option linter.unusedVariables false
set_option linter.unusedSimpArgs false
set_option maxRecDepth 20000

theorem impl_HalfAt (l : List HalfD) (r : RoadD) (hl : l.length ≤ 1048576) : CallA Try.prog 232 [.sc (.sl 0 0 l.length), .ag r.cs] [some ⟨l.map HalfD.cs, 8, 139, false, true⟩] (.sc (.int .i64 (halfAt l r))) [some ⟨l.map HalfD.cs, 8, 139, false, true⟩] := by
  refine callA_of Try.func232 (by kernel_rfl) rfl fun E hE => run_den 400 ?_
  simp (disch := omega) only [Try.ntmps232, Try.results232, go_sem, Nat.reduceEqDiff, Nat.reduceAdd, Nat.reduceSub, Int.reduceAdd, Int.reduceSub, Int.reduceToNat]
  refine den_lp 1 hE (fun s (k : Nat) => s.at [0, 1, 4, 5, 6, 10, 11, 12, 13, 14, 15, 16, 17, 18, 19] [(9, .sc (.int .i64 (k : Nat)))] (s.hp)) (fun (k : Nat) => k ≤ l.length ∧ idxGo (fun h : HalfD => roadEq h.road r) k (l.drop k) = halfAt l r) (fun (k : Nat) => l.length - k) 0 [some (0, none), some (1, none)] (by (try simp (disch := omega) only [go_sem, Nat.reduceEqDiff, Nat.reduceAdd, Nat.reduceSub, Int.reduceAdd, Int.reduceSub, Int.reduceToNat]) <;> omega) (⟨Nat.zero_le _, rfl⟩) (weak_mk (by rfl) (by rfl) ?_) fun k hk N hN => ?_
  · try simp (disch := omega) only [go_sem, Nat.reduceEqDiff, Nat.reduceAdd, Nat.reduceSub, Int.reduceAdd, Int.reduceSub, Int.reduceToNat]
  · obtain ⟨hk1, hk2⟩ := hk
    refine run_den 400 ?_
    try simp (disch := omega) only [go_sem, Nat.reduceEqDiff, Nat.reduceAdd, Nat.reduceSub, Int.reduceAdd, Int.reduceSub, Int.reduceToNat]
    split <;> rename_i h <;> (try simp only [beq_true, beq_false, Bool.not_eq_true', Bool.not_eq_false'] at h) <;> simp (disch := omega) only [go_sem, Nat.reduceEqDiff, Nat.reduceAdd, Nat.reduceSub, Int.reduceAdd, Int.reduceSub, Int.reduceToNat, h] <;> (try simp only [decide_eq_true_eq, decide_eq_false_iff_not, beq_iff_eq, beq_eq_false_iff_ne, bne_iff_ne, bne_eq_false_iff_eq, ne_eq, Decidable.not_not, Bool.and_eq_true, Bool.and_eq_false_iff, Bool.or_eq_true, Bool.or_eq_false_iff, Int.ofNat_lt, Int.ofNat_le, Bool.not_eq_eq_eq_not, Bool.not_true, Bool.not_false] at h) <;> try simp (disch := omega) only [go_sem, Nat.reduceEqDiff, Nat.reduceAdd, Nat.reduceSub, Int.reduceAdd, Int.reduceSub, Int.reduceToNat]
    · rw [idxGo_step h] at hk2
      try simp (disch := omega) only [go_sem, Nat.reduceEqDiff, Nat.reduceAdd, Nat.reduceSub, Int.reduceAdd, Int.reduceSub, Int.reduceToNat]
      split <;> rename_i h2 <;> (try simp only [beq_true, beq_false, Bool.not_eq_true', Bool.not_eq_false'] at h2) <;> simp (disch := omega) only [go_sem, Nat.reduceEqDiff, Nat.reduceAdd, Nat.reduceSub, Int.reduceAdd, Int.reduceSub, Int.reduceToNat, h2] <;> (try simp only [decide_eq_true_eq, decide_eq_false_iff_not, beq_iff_eq, beq_eq_false_iff_ne, bne_iff_ne, bne_eq_false_iff_eq, ne_eq, Decidable.not_not, Bool.and_eq_true, Bool.and_eq_false_iff, Bool.or_eq_true, Bool.or_eq_false_iff, Int.ofNat_lt, Int.ofNat_le, Bool.not_eq_eq_eq_not, Bool.not_true, Bool.not_false] at h2) <;> try simp (disch := omega) only [go_sem, Nat.reduceEqDiff, Nat.reduceAdd, Nat.reduceSub, Int.reduceAdd, Int.reduceSub, Int.reduceToNat]
      · rw [roadEq_t h2, if_pos rfl] at hk2
        refine den_fin [some (0, none)] (by (try simp (disch := omega) only [go_sem, Nat.reduceEqDiff, Nat.reduceAdd, Nat.reduceSub, Int.reduceAdd, Int.reduceSub, Int.reduceToNat]) <;> omega) _ (by simp only [go_sem]; rfl) (by rfl) (by rfl) ?_
        simp (disch := omega) only [go_sem, Nat.reduceEqDiff, Nat.reduceAdd, Nat.reduceSub, Int.reduceAdd, Int.reduceSub, Int.reduceToNat]
        try exact hk2
      · rw [roadEq_f h2, if_neg (by simp)] at hk2
        refine ⟨by (try simp (disch := omega) only [go_sem, Nat.reduceEqDiff, Nat.reduceAdd, Nat.reduceSub, Int.reduceAdd, Int.reduceSub, Int.reduceToNat]) <;> omega, hN _ (k + 1) [some (0, none), some (1, none)] (by (try dsimp only); exact ⟨by omega, hk2⟩) (by (try dsimp only); omega) (weak_mk (by rfl) (by rfl) ?_)⟩
        try simp (disch := omega) only [go_sem, Nat.reduceEqDiff, Nat.reduceAdd, Nat.reduceSub, Int.reduceAdd, Int.reduceSub, Int.reduceToNat]
    · rw [idxGo_end (by omega)] at hk2
      refine den_fin [some (0, none)] (by (try simp (disch := omega) only [go_sem, Nat.reduceEqDiff, Nat.reduceAdd, Nat.reduceSub, Int.reduceAdd, Int.reduceSub, Int.reduceToNat]) <;> omega) _ (by simp only [go_sem]; rfl) (by rfl) (by rfl) ?_
      simp (disch := omega) only [go_sem, Nat.reduceEqDiff, Nat.reduceAdd, Nat.reduceSub, Int.reduceAdd, Int.reduceSub, Int.reduceToNat]
      try exact hk2
theorem impl_AddrAt (l : List AddrD) (n : Int) (hl : l.length ≤ 1048576) : CallA Try.prog 235 [.sc (.sl 0 0 l.length), .sc (.int .i64 n)] [some ⟨l.map AddrD.cs, 4, 167, false, true⟩] (.sc (.int .i64 (addrAt l n))) [some ⟨l.map AddrD.cs, 4, 167, false, true⟩] := by
  refine callA_of Try.func235 (by kernel_rfl) rfl fun E hE => run_den 400 ?_
  simp (disch := omega) only [Try.ntmps235, Try.results235, go_sem, Nat.reduceEqDiff, Nat.reduceAdd, Nat.reduceSub, Int.reduceAdd, Int.reduceSub, Int.reduceToNat]
  refine den_lp 1 hE (fun s (k : Nat) => s.at [0, 4, 5, 6, 10, 11, 12, 13, 14, 15, 16, 17, 18, 19] [(9, .sc (.int .i64 (k : Nat)))] (s.hp)) (fun (k : Nat) => k ≤ l.length ∧ idxGo (fun a : AddrD => a.id == n) k (l.drop k) = addrAt l n) (fun (k : Nat) => l.length - k) 0 [some (0, none)] (by (try simp (disch := omega) only [go_sem, Nat.reduceEqDiff, Nat.reduceAdd, Nat.reduceSub, Int.reduceAdd, Int.reduceSub, Int.reduceToNat]) <;> omega) (⟨Nat.zero_le _, rfl⟩) (weak_mk (by rfl) (by rfl) ?_) fun k hk N hN => ?_
  · try simp (disch := omega) only [go_sem, Nat.reduceEqDiff, Nat.reduceAdd, Nat.reduceSub, Int.reduceAdd, Int.reduceSub, Int.reduceToNat]
  · obtain ⟨hk1, hk2⟩ := hk
    refine run_den 400 ?_
    try simp (disch := omega) only [go_sem, Nat.reduceEqDiff, Nat.reduceAdd, Nat.reduceSub, Int.reduceAdd, Int.reduceSub, Int.reduceToNat]
    split <;> rename_i h <;> (try simp only [beq_true, beq_false, Bool.not_eq_true', Bool.not_eq_false'] at h) <;> simp (disch := omega) only [go_sem, Nat.reduceEqDiff, Nat.reduceAdd, Nat.reduceSub, Int.reduceAdd, Int.reduceSub, Int.reduceToNat, h] <;> (try simp only [decide_eq_true_eq, decide_eq_false_iff_not, beq_iff_eq, beq_eq_false_iff_ne, bne_iff_ne, bne_eq_false_iff_eq, ne_eq, Decidable.not_not, Bool.and_eq_true, Bool.and_eq_false_iff, Bool.or_eq_true, Bool.or_eq_false_iff, Int.ofNat_lt, Int.ofNat_le, Bool.not_eq_eq_eq_not, Bool.not_true, Bool.not_false] at h) <;> try simp (disch := omega) only [go_sem, Nat.reduceEqDiff, Nat.reduceAdd, Nat.reduceSub, Int.reduceAdd, Int.reduceSub, Int.reduceToNat]
    · rw [idxGo_step h] at hk2
      try simp (disch := omega) only [go_sem, Nat.reduceEqDiff, Nat.reduceAdd, Nat.reduceSub, Int.reduceAdd, Int.reduceSub, Int.reduceToNat]
      split <;> rename_i h2 <;> (try simp only [beq_true, beq_false, Bool.not_eq_true', Bool.not_eq_false'] at h2) <;> simp (disch := omega) only [go_sem, Nat.reduceEqDiff, Nat.reduceAdd, Nat.reduceSub, Int.reduceAdd, Int.reduceSub, Int.reduceToNat, h2] <;> (try simp only [decide_eq_true_eq, decide_eq_false_iff_not, beq_iff_eq, beq_eq_false_iff_ne, bne_iff_ne, bne_eq_false_iff_eq, ne_eq, Decidable.not_not, Bool.and_eq_true, Bool.and_eq_false_iff, Bool.or_eq_true, Bool.or_eq_false_iff, Int.ofNat_lt, Int.ofNat_le, Bool.not_eq_eq_eq_not, Bool.not_true, Bool.not_false] at h2) <;> try simp (disch := omega) only [go_sem, Nat.reduceEqDiff, Nat.reduceAdd, Nat.reduceSub, Int.reduceAdd, Int.reduceSub, Int.reduceToNat]
      · rw [if_pos (by simp [h2])] at hk2
        refine den_fin [some (0, none)] (by (try simp (disch := omega) only [go_sem, Nat.reduceEqDiff, Nat.reduceAdd, Nat.reduceSub, Int.reduceAdd, Int.reduceSub, Int.reduceToNat]) <;> omega) _ (by simp only [go_sem]; rfl) (by rfl) (by rfl) ?_
        simp (disch := omega) only [go_sem, Nat.reduceEqDiff, Nat.reduceAdd, Nat.reduceSub, Int.reduceAdd, Int.reduceSub, Int.reduceToNat]
        try exact hk2
      · rw [if_neg (by simp [h2])] at hk2
        refine ⟨by (try simp (disch := omega) only [go_sem, Nat.reduceEqDiff, Nat.reduceAdd, Nat.reduceSub, Int.reduceAdd, Int.reduceSub, Int.reduceToNat]) <;> omega, hN _ (k + 1) [some (0, none)] (by (try dsimp only); exact ⟨by omega, hk2⟩) (by (try dsimp only); omega) (weak_mk (by rfl) (by rfl) ?_)⟩
        try simp (disch := omega) only [go_sem, Nat.reduceEqDiff, Nat.reduceAdd, Nat.reduceSub, Int.reduceAdd, Int.reduceSub, Int.reduceToNat]
    · rw [idxGo_end (by omega)] at hk2
      refine den_fin [some (0, none)] (by (try simp (disch := omega) only [go_sem, Nat.reduceEqDiff, Nat.reduceAdd, Nat.reduceSub, Int.reduceAdd, Int.reduceSub, Int.reduceToNat]) <;> omega) _ (by simp only [go_sem]; rfl) (by rfl) (by rfl) ?_
      simp (disch := omega) only [go_sem, Nat.reduceEqDiff, Nat.reduceAdd, Nat.reduceSub, Int.reduceAdd, Int.reduceSub, Int.reduceToNat]
      try exact hk2
theorem impl_SubAt (e : EndD) (r : RoadD) (hl : e.subs.length ≤ 1048576) : CallA Try.prog 221 [.ag (e.cs 0), .ag r.cs] (e.hp false) (.sc (.int .i64 (subAt e.subs r))) (e.hp false) := by
  refine callA_of Try.func221 (by kernel_rfl) rfl fun E hE => run_den 400 ?_
  simp (disch := omega) only [Try.ntmps221, Try.results221, go_sem, Nat.reduceEqDiff, Nat.reduceAdd, Nat.reduceSub, Int.reduceAdd, Int.reduceSub, Int.reduceToNat]
  refine den_lp 7 hE (fun s (k : Nat) => s.at [0, 1, 2, 4, 5, 6, 7, 11, 12, 13, 14, 15, 16, 17, 18, 19, 20, 21, 22, 23, 24, 25] [(10, .sc (.int .i64 (k : Nat)))] (s.hp)) (fun (k : Nat) => k ≤ e.subs.length ∧ idxGo (fun s : SubD => s.state != 4 && roadEq s.road r) k (e.subs.drop k) = subAt e.subs r) (fun (k : Nat) => e.subs.length - k) 0 [some (0, none), some (1, none), some (2, none), some (3, none), some (4, none), some (5, none), some (6, none), some (7, none), some (8, none)] (by (try simp (disch := omega) only [go_sem, Nat.reduceEqDiff, Nat.reduceAdd, Nat.reduceSub, Int.reduceAdd, Int.reduceSub, Int.reduceToNat]) <;> omega) (⟨Nat.zero_le _, rfl⟩) (weak_mk (by rfl) (by rfl) ?_) fun k hk N hN => ?_
  · try simp (disch := omega) only [go_sem, Nat.reduceEqDiff, Nat.reduceAdd, Nat.reduceSub, Int.reduceAdd, Int.reduceSub, Int.reduceToNat]
  · obtain ⟨hk1, hk2⟩ := hk
    refine run_den 400 ?_
    try simp (disch := omega) only [go_sem, Nat.reduceEqDiff, Nat.reduceAdd, Nat.reduceSub, Int.reduceAdd, Int.reduceSub, Int.reduceToNat]
    split <;> rename_i h <;> (try simp only [beq_true, beq_false, Bool.not_eq_true', Bool.not_eq_false'] at h) <;> simp (disch := omega) only [go_sem, Nat.reduceEqDiff, Nat.reduceAdd, Nat.reduceSub, Int.reduceAdd, Int.reduceSub, Int.reduceToNat, h] <;> (try simp only [decide_eq_true_eq, decide_eq_false_iff_not, beq_iff_eq, beq_eq_false_iff_ne, bne_iff_ne, bne_eq_false_iff_eq, ne_eq, Decidable.not_not, Bool.and_eq_true, Bool.and_eq_false_iff, Bool.or_eq_true, Bool.or_eq_false_iff, Int.ofNat_lt, Int.ofNat_le, Bool.not_eq_eq_eq_not, Bool.not_true, Bool.not_false] at h) <;> try simp (disch := omega) only [go_sem, Nat.reduceEqDiff, Nat.reduceAdd, Nat.reduceSub, Int.reduceAdd, Int.reduceSub, Int.reduceToNat]
    · rw [idxGo_step h] at hk2
      try simp (disch := omega) only [go_sem, Nat.reduceEqDiff, Nat.reduceAdd, Nat.reduceSub, Int.reduceAdd, Int.reduceSub, Int.reduceToNat]
      split <;> rename_i h2 <;> (try simp only [beq_true, beq_false, Bool.not_eq_true', Bool.not_eq_false'] at h2) <;> simp (disch := omega) only [go_sem, Nat.reduceEqDiff, Nat.reduceAdd, Nat.reduceSub, Int.reduceAdd, Int.reduceSub, Int.reduceToNat, h2] <;> (try simp only [decide_eq_true_eq, decide_eq_false_iff_not, beq_iff_eq, beq_eq_false_iff_ne, bne_iff_ne, bne_eq_false_iff_eq, ne_eq, Decidable.not_not, Bool.and_eq_true, Bool.and_eq_false_iff, Bool.or_eq_true, Bool.or_eq_false_iff, Int.ofNat_lt, Int.ofNat_le, Bool.not_eq_eq_eq_not, Bool.not_true, Bool.not_false] at h2) <;> try simp (disch := omega) only [go_sem, Nat.reduceEqDiff, Nat.reduceAdd, Nat.reduceSub, Int.reduceAdd, Int.reduceSub, Int.reduceToNat]
      · split <;> rename_i h3 <;> (try simp only [beq_true, beq_false, Bool.not_eq_true', Bool.not_eq_false'] at h3) <;> simp (disch := omega) only [go_sem, Nat.reduceEqDiff, Nat.reduceAdd, Nat.reduceSub, Int.reduceAdd, Int.reduceSub, Int.reduceToNat, h3] <;> (try simp only [decide_eq_true_eq, decide_eq_false_iff_not, beq_iff_eq, beq_eq_false_iff_ne, bne_iff_ne, bne_eq_false_iff_eq, ne_eq, Decidable.not_not, Bool.and_eq_true, Bool.and_eq_false_iff, Bool.or_eq_true, Bool.or_eq_false_iff, Int.ofNat_lt, Int.ofNat_le, Bool.not_eq_eq_eq_not, Bool.not_true, Bool.not_false] at h3) <;> try simp (disch := omega) only [go_sem, Nat.reduceEqDiff, Nat.reduceAdd, Nat.reduceSub, Int.reduceAdd, Int.reduceSub, Int.reduceToNat]
        · rw [if_pos (by simp [roadEq_t h3, h2])] at hk2
          refine den_fin [some (0, none), some (1, none), some (2, none), some (3, none), some (4, none), some (5, none), some (6, none)] (by (try simp (disch := omega) only [go_sem, Nat.reduceEqDiff, Nat.reduceAdd, Nat.reduceSub, Int.reduceAdd, Int.reduceSub, Int.reduceToNat]) <;> omega) _ (by simp only [go_sem]; rfl) (by rfl) (by rfl) ?_
          simp (disch := omega) only [go_sem, Nat.reduceEqDiff, Nat.reduceAdd, Nat.reduceSub, Int.reduceAdd, Int.reduceSub, Int.reduceToNat]
          try exact hk2
        · rw [if_neg (by simp [roadEq_f h3])] at hk2
          refine ⟨by (try simp (disch := omega) only [go_sem, Nat.reduceEqDiff, Nat.reduceAdd, Nat.reduceSub, Int.reduceAdd, Int.reduceSub, Int.reduceToNat]) <;> omega, hN _ (k + 1) [some (0, none), some (1, none), some (2, none), some (3, none), some (4, none), some (5, none), some (6, none), some (7, none), some (8, none)] (by (try dsimp only); exact ⟨by omega, hk2⟩) (by (try dsimp only); omega) (weak_mk (by rfl) (by rfl) ?_)⟩
          try simp (disch := omega) only [go_sem, Nat.reduceEqDiff, Nat.reduceAdd, Nat.reduceSub, Int.reduceAdd, Int.reduceSub, Int.reduceToNat]
      · rw [if_neg (by simp [h2])] at hk2
        try simp (disch := omega) only [go_sem, Nat.reduceEqDiff, Nat.reduceAdd, Nat.reduceSub, Int.reduceAdd, Int.reduceSub, Int.reduceToNat]
        refine ⟨by (try simp (disch := omega) only [go_sem, Nat.reduceEqDiff, Nat.reduceAdd, Nat.reduceSub, Int.reduceAdd, Int.reduceSub, Int.reduceToNat]) <;> omega, hN _ (k + 1) [some (0, none), some (1, none), some (2, none), some (3, none), some (4, none), some (5, none), some (6, none), some (7, none), some (8, none)] (by (try dsimp only); exact ⟨by omega, hk2⟩) (by (try dsimp only); omega) (weak_mk (by rfl) (by rfl) ?_)⟩
        try simp (disch := omega) only [go_sem, Nat.reduceEqDiff, Nat.reduceAdd, Nat.reduceSub, Int.reduceAdd, Int.reduceSub, Int.reduceToNat]
    · rw [idxGo_end (by omega)] at hk2
      refine den_fin [some (0, none), some (1, none), some (2, none), some (3, none), some (4, none), some (5, none), some (6, none)] (by (try simp (disch := omega) only [go_sem, Nat.reduceEqDiff, Nat.reduceAdd, Nat.reduceSub, Int.reduceAdd, Int.reduceSub, Int.reduceToNat]) <;> omega) _ (by simp only [go_sem]; rfl) (by rfl) (by rfl) ?_
      simp (disch := omega) only [go_sem, Nat.reduceEqDiff, Nat.reduceAdd, Nat.reduceSub, Int.reduceAdd, Int.reduceSub, Int.reduceToNat]
      try exact hk2
theorem spec_HalfAt (l : List HalfD) (r : RoadD) (hl : l.length ≤ 1048576) : CallA Try.prog 229 [.sc (.sl 0 0 l.length), .ag r.cs] [some ⟨l.map HalfD.cs, 8, 139, false, true⟩] (.sc (.int .i64 (halfAt l r))) [some ⟨l.map HalfD.cs, 8, 139, false, true⟩] := by
  refine callA_of Try.func229 (by kernel_rfl) rfl fun E hE => run_den 400 ?_
  simp (disch := omega) only [Try.ntmps229, Try.results229, go_sem, Nat.reduceEqDiff, Nat.reduceAdd, Nat.reduceSub, Int.reduceAdd, Int.reduceSub, Int.reduceToNat]
  refine den_lp 1 hE (fun s (k : Nat) => s.at [1, 4, 6, 7, 8, 9, 10, 11, 12, 13, 14, 15, 16, 17, 18, 19] [(5, .sc (.int .i64 (k : Nat)))] (s.hp)) (fun (k : Nat) => k ≤ l.length ∧ idxGo (fun h : HalfD => roadEq h.road r) k (l.drop k) = halfAt l r) (fun (k : Nat) => l.length - k) 0 [some (0, none), some (1, none)] (by (try simp (disch := omega) only [go_sem, Nat.reduceEqDiff, Nat.reduceAdd, Nat.reduceSub, Int.reduceAdd, Int.reduceSub, Int.reduceToNat]) <;> omega) (⟨Nat.zero_le _, rfl⟩) (weak_mk (by rfl) (by rfl) ?_) fun k hk N hN => ?_
  · try simp (disch := omega) only [go_sem, Nat.reduceEqDiff, Nat.reduceAdd, Nat.reduceSub, Int.reduceAdd, Int.reduceSub, Int.reduceToNat]
  · obtain ⟨hk1, hk2⟩ := hk
    refine run_den 400 ?_
    try simp (disch := omega) only [go_sem, Nat.reduceEqDiff, Nat.reduceAdd, Nat.reduceSub, Int.reduceAdd, Int.reduceSub, Int.reduceToNat]
    split <;> rename_i h <;> (try simp only [beq_true, beq_false, Bool.not_eq_true', Bool.not_eq_false'] at h) <;> simp (disch := omega) only [go_sem, Nat.reduceEqDiff, Nat.reduceAdd, Nat.reduceSub, Int.reduceAdd, Int.reduceSub, Int.reduceToNat, h] <;> (try simp only [decide_eq_true_eq, decide_eq_false_iff_not, beq_iff_eq, beq_eq_false_iff_ne, bne_iff_ne, bne_eq_false_iff_eq, ne_eq, Decidable.not_not, Bool.and_eq_true, Bool.and_eq_false_iff, Bool.or_eq_true, Bool.or_eq_false_iff, Int.ofNat_lt, Int.ofNat_le, Bool.not_eq_eq_eq_not, Bool.not_true, Bool.not_false] at h) <;> try simp (disch := omega) only [go_sem, Nat.reduceEqDiff, Nat.reduceAdd, Nat.reduceSub, Int.reduceAdd, Int.reduceSub, Int.reduceToNat]
    · rw [idxGo_step h] at hk2
      refine den_draw1 [0, 1, 2, 3, 4, 5, 6] (by kernel_rfl) (by (try simp (disch := omega) only [go_sem, Nat.reduceEqDiff, Nat.reduceAdd, Nat.reduceSub, Int.reduceAdd, Int.reduceSub, Int.reduceToNat]) <;> omega) (by kernel_rfl) (runD_den 400 ?_)
      simp (disch := omega) only [go_sem, Nat.reduceEqDiff, Nat.reduceAdd, Nat.reduceSub, Int.reduceAdd, Int.reduceSub, Int.reduceToNat]
      refine ⟨by (try simp (disch := omega) only [go_sem, Nat.reduceEqDiff, Nat.reduceAdd, Nat.reduceSub, Int.reduceAdd, Int.reduceSub, Int.reduceToNat]) <;> omega, run_den 400 ?_⟩
      try simp (disch := omega) only [go_sem, Nat.reduceEqDiff, Nat.reduceAdd, Nat.reduceSub, Int.reduceAdd, Int.reduceSub, Int.reduceToNat]
      split <;> rename_i h2 <;> (try simp only [beq_true, beq_false, Bool.not_eq_true', Bool.not_eq_false'] at h2) <;> simp (disch := omega) only [go_sem, Nat.reduceEqDiff, Nat.reduceAdd, Nat.reduceSub, Int.reduceAdd, Int.reduceSub, Int.reduceToNat, h2] <;> (try simp only [decide_eq_true_eq, decide_eq_false_iff_not, beq_iff_eq, beq_eq_false_iff_ne, bne_iff_ne, bne_eq_false_iff_eq, ne_eq, Decidable.not_not, Bool.and_eq_true, Bool.and_eq_false_iff, Bool.or_eq_true, Bool.or_eq_false_iff, Int.ofNat_lt, Int.ofNat_le, Bool.not_eq_eq_eq_not, Bool.not_true, Bool.not_false] at h2) <;> try simp (disch := omega) only [go_sem, Nat.reduceEqDiff, Nat.reduceAdd, Nat.reduceSub, Int.reduceAdd, Int.reduceSub, Int.reduceToNat]
      · rw [roadEq_t h2, if_pos rfl] at hk2
        refine den_fin [some (0, none)] (by (try simp (disch := omega) only [go_sem, Nat.reduceEqDiff, Nat.reduceAdd, Nat.reduceSub, Int.reduceAdd, Int.reduceSub, Int.reduceToNat]) <;> omega) _ (by simp only [go_sem]; rfl) (by rfl) (by rfl) ?_
        simp (disch := omega) only [go_sem, Nat.reduceEqDiff, Nat.reduceAdd, Nat.reduceSub, Int.reduceAdd, Int.reduceSub, Int.reduceToNat]
        try exact hk2
      · rw [roadEq_f h2, if_neg (by simp)] at hk2
        refine ⟨by (try simp (disch := omega) only [go_sem, Nat.reduceEqDiff, Nat.reduceAdd, Nat.reduceSub, Int.reduceAdd, Int.reduceSub, Int.reduceToNat]) <;> omega, hN _ (k + 1) [some (0, none), some (1, none)] (by (try dsimp only); exact ⟨by omega, hk2⟩) (by (try dsimp only); omega) (weak_mk (by rfl) (by rfl) ?_)⟩
        try simp (disch := omega) only [go_sem, Nat.reduceEqDiff, Nat.reduceAdd, Nat.reduceSub, Int.reduceAdd, Int.reduceSub, Int.reduceToNat]
    · rw [idxGo_end (by omega)] at hk2
      refine den_fin [some (0, none)] (by (try simp (disch := omega) only [go_sem, Nat.reduceEqDiff, Nat.reduceAdd, Nat.reduceSub, Int.reduceAdd, Int.reduceSub, Int.reduceToNat]) <;> omega) _ (by simp only [go_sem]; rfl) (by rfl) (by rfl) ?_
      simp (disch := omega) only [go_sem, Nat.reduceEqDiff, Nat.reduceAdd, Nat.reduceSub, Int.reduceAdd, Int.reduceSub, Int.reduceToNat]
      try exact hk2
theorem spec_AddrAt (l : List AddrD) (n : Int) (hl : l.length ≤ 1048576) : CallA Try.prog 231 [.sc (.sl 0 0 l.length), .sc (.int .i64 n)] [some ⟨l.map AddrD.cs, 4, 167, false, true⟩] (.sc (.int .i64 (addrAt l n))) [some ⟨l.map AddrD.cs, 4, 167, false, true⟩] := by
  refine callA_of Try.func231 (by kernel_rfl) rfl fun E hE => run_den 400 ?_
  simp (disch := omega) only [Try.ntmps231, Try.results231, go_sem, Nat.reduceEqDiff, Nat.reduceAdd, Nat.reduceSub, Int.reduceAdd, Int.reduceSub, Int.reduceToNat]
  refine den_lp 1 hE (fun s (k : Nat) => s.at [4, 6, 7, 8, 9, 10, 11, 12, 13, 14, 15, 16, 17, 18, 19] [(5, .sc (.int .i64 (k : Nat)))] (s.hp)) (fun (k : Nat) => k ≤ l.length ∧ idxGo (fun a : AddrD => a.id == n) k (l.drop k) = addrAt l n) (fun (k : Nat) => l.length - k) 0 [some (0, none)] (by (try simp (disch := omega) only [go_sem, Nat.reduceEqDiff, Nat.reduceAdd, Nat.reduceSub, Int.reduceAdd, Int.reduceSub, Int.reduceToNat]) <;> omega) (⟨Nat.zero_le _, rfl⟩) (weak_mk (by rfl) (by rfl) ?_) fun k hk N hN => ?_
  · try simp (disch := omega) only [go_sem, Nat.reduceEqDiff, Nat.reduceAdd, Nat.reduceSub, Int.reduceAdd, Int.reduceSub, Int.reduceToNat]
  · obtain ⟨hk1, hk2⟩ := hk
    refine run_den 400 ?_
    try simp (disch := omega) only [go_sem, Nat.reduceEqDiff, Nat.reduceAdd, Nat.reduceSub, Int.reduceAdd, Int.reduceSub, Int.reduceToNat]
    split <;> rename_i h <;> (try simp only [beq_true, beq_false, Bool.not_eq_true', Bool.not_eq_false'] at h) <;> simp (disch := omega) only [go_sem, Nat.reduceEqDiff, Nat.reduceAdd, Nat.reduceSub, Int.reduceAdd, Int.reduceSub, Int.reduceToNat, h] <;> (try simp only [decide_eq_true_eq, decide_eq_false_iff_not, beq_iff_eq, beq_eq_false_iff_ne, bne_iff_ne, bne_eq_false_iff_eq, ne_eq, Decidable.not_not, Bool.and_eq_true, Bool.and_eq_false_iff, Bool.or_eq_true, Bool.or_eq_false_iff, Int.ofNat_lt, Int.ofNat_le, Bool.not_eq_eq_eq_not, Bool.not_true, Bool.not_false] at h) <;> try simp (disch := omega) only [go_sem, Nat.reduceEqDiff, Nat.reduceAdd, Nat.reduceSub, Int.reduceAdd, Int.reduceSub, Int.reduceToNat]
    · rw [idxGo_step h] at hk2
      try simp (disch := omega) only [go_sem, Nat.reduceEqDiff, Nat.reduceAdd, Nat.reduceSub, Int.reduceAdd, Int.reduceSub, Int.reduceToNat]
      split <;> rename_i h2 <;> (try simp only [beq_true, beq_false, Bool.not_eq_true', Bool.not_eq_false'] at h2) <;> simp (disch := omega) only [go_sem, Nat.reduceEqDiff, Nat.reduceAdd, Nat.reduceSub, Int.reduceAdd, Int.reduceSub, Int.reduceToNat, h2] <;> (try simp only [decide_eq_true_eq, decide_eq_false_iff_not, beq_iff_eq, beq_eq_false_iff_ne, bne_iff_ne, bne_eq_false_iff_eq, ne_eq, Decidable.not_not, Bool.and_eq_true, Bool.and_eq_false_iff, Bool.or_eq_true, Bool.or_eq_false_iff, Int.ofNat_lt, Int.ofNat_le, Bool.not_eq_eq_eq_not, Bool.not_true, Bool.not_false] at h2) <;> try simp (disch := omega) only [go_sem, Nat.reduceEqDiff, Nat.reduceAdd, Nat.reduceSub, Int.reduceAdd, Int.reduceSub, Int.reduceToNat]
      · rw [if_pos (by simp [h2])] at hk2
        refine den_fin [some (0, none)] (by (try simp (disch := omega) only [go_sem, Nat.reduceEqDiff, Nat.reduceAdd, Nat.reduceSub, Int.reduceAdd, Int.reduceSub, Int.reduceToNat]) <;> omega) _ (by simp only [go_sem]; rfl) (by rfl) (by rfl) ?_
        simp (disch := omega) only [go_sem, Nat.reduceEqDiff, Nat.reduceAdd, Nat.reduceSub, Int.reduceAdd, Int.reduceSub, Int.reduceToNat]
        try exact hk2
      · rw [if_neg (by simp [h2])] at hk2
        refine ⟨by (try simp (disch := omega) only [go_sem, Nat.reduceEqDiff, Nat.reduceAdd, Nat.reduceSub, Int.reduceAdd, Int.reduceSub, Int.reduceToNat]) <;> omega, hN _ (k + 1) [some (0, none)] (by (try dsimp only); exact ⟨by omega, hk2⟩) (by (try dsimp only); omega) (weak_mk (by rfl) (by rfl) ?_)⟩
        try simp (disch := omega) only [go_sem, Nat.reduceEqDiff, Nat.reduceAdd, Nat.reduceSub, Int.reduceAdd, Int.reduceSub, Int.reduceToNat]
    · rw [idxGo_end (by omega)] at hk2
      refine den_fin [some (0, none)] (by (try simp (disch := omega) only [go_sem, Nat.reduceEqDiff, Nat.reduceAdd, Nat.reduceSub, Int.reduceAdd, Int.reduceSub, Int.reduceToNat]) <;> omega) _ (by simp only [go_sem]; rfl) (by rfl) (by rfl) ?_
      simp (disch := omega) only [go_sem, Nat.reduceEqDiff, Nat.reduceAdd, Nat.reduceSub, Int.reduceAdd, Int.reduceSub, Int.reduceToNat]
      try exact hk2
theorem spec_SubAt (e : EndD) (r : RoadD) (hl : e.subs.length ≤ 1048576) : CallA Try.prog 211 [.ag (e.cs 0), .ag r.cs] (e.hp false) (.sc (.int .i64 (subAt e.subs r))) (e.hp false) := by
  refine callA_of Try.func211 (by kernel_rfl) rfl fun E hE => run_den 400 ?_
  simp (disch := omega) only [Try.ntmps211, Try.results211, go_sem, Nat.reduceEqDiff, Nat.reduceAdd, Nat.reduceSub, Int.reduceAdd, Int.reduceSub, Int.reduceToNat]
  refine den_lp 7 hE (fun s (k : Nat) => s.at [0, 1, 4, 6, 7, 8, 9, 10, 11, 12, 13, 14, 15, 16, 17, 18, 19, 20, 21, 22, 23, 24, 25, 26, 27, 28, 29, 30] [(5, .sc (.int .i64 (k : Nat)))] (s.hp)) (fun (k : Nat) => k ≤ e.subs.length ∧ idxGo (fun s : SubD => s.state != 4 && roadEq s.road r) k (e.subs.drop k) = subAt e.subs r) (fun (k : Nat) => e.subs.length - k) 0 [some (0, none), some (1, none), some (2, none), some (3, none), some (4, none), some (5, none), some (6, none), some (7, none), some (8, none)] (by (try simp (disch := omega) only [go_sem, Nat.reduceEqDiff, Nat.reduceAdd, Nat.reduceSub, Int.reduceAdd, Int.reduceSub, Int.reduceToNat]) <;> omega) (⟨Nat.zero_le _, rfl⟩) (weak_mk (by rfl) (by rfl) ?_) fun k hk N hN => ?_
  · try simp (disch := omega) only [go_sem, Nat.reduceEqDiff, Nat.reduceAdd, Nat.reduceSub, Int.reduceAdd, Int.reduceSub, Int.reduceToNat]
  · obtain ⟨hk1, hk2⟩ := hk
    refine run_den 400 ?_
    try simp (disch := omega) only [go_sem, Nat.reduceEqDiff, Nat.reduceAdd, Nat.reduceSub, Int.reduceAdd, Int.reduceSub, Int.reduceToNat]
    split <;> rename_i h <;> (try simp only [beq_true, beq_false, Bool.not_eq_true', Bool.not_eq_false'] at h) <;> simp (disch := omega) only [go_sem, Nat.reduceEqDiff, Nat.reduceAdd, Nat.reduceSub, Int.reduceAdd, Int.reduceSub, Int.reduceToNat, h] <;> (try simp only [decide_eq_true_eq, decide_eq_false_iff_not, beq_iff_eq, beq_eq_false_iff_ne, bne_iff_ne, bne_eq_false_iff_eq, ne_eq, Decidable.not_not, Bool.and_eq_true, Bool.and_eq_false_iff, Bool.or_eq_true, Bool.or_eq_false_iff, Int.ofNat_lt, Int.ofNat_le, Bool.not_eq_eq_eq_not, Bool.not_true, Bool.not_false] at h) <;> try simp (disch := omega) only [go_sem, Nat.reduceEqDiff, Nat.reduceAdd, Nat.reduceSub, Int.reduceAdd, Int.reduceSub, Int.reduceToNat]
    · rw [idxGo_step h] at hk2
      refine den_draw1 [0, 1, 2, 3, 4, 5, 6, 7, 8, 9, 10, 11, 12, 13, 14, 15, 16] (by kernel_rfl) (by (try simp (disch := omega) only [go_sem, Nat.reduceEqDiff, Nat.reduceAdd, Nat.reduceSub, Int.reduceAdd, Int.reduceSub, Int.reduceToNat]) <;> omega) (by kernel_rfl) (runD_den 400 ?_)
      simp (disch := omega) only [go_sem, Nat.reduceEqDiff, Nat.reduceAdd, Nat.reduceSub, Int.reduceAdd, Int.reduceSub, Int.reduceToNat]
      split <;> rename_i h2 <;> (try simp only [beq_true, beq_false, Bool.not_eq_true', Bool.not_eq_false'] at h2) <;> simp (disch := omega) only [go_sem, Nat.reduceEqDiff, Nat.reduceAdd, Nat.reduceSub, Int.reduceAdd, Int.reduceSub, Int.reduceToNat, h2] <;> (try simp only [decide_eq_true_eq, decide_eq_false_iff_not, beq_iff_eq, beq_eq_false_iff_ne, bne_iff_ne, bne_eq_false_iff_eq, ne_eq, Decidable.not_not, Bool.and_eq_true, Bool.and_eq_false_iff, Bool.or_eq_true, Bool.or_eq_false_iff, Int.ofNat_lt, Int.ofNat_le, Bool.not_eq_eq_eq_not, Bool.not_true, Bool.not_false] at h2) <;> try simp (disch := omega) only [go_sem, Nat.reduceEqDiff, Nat.reduceAdd, Nat.reduceSub, Int.reduceAdd, Int.reduceSub, Int.reduceToNat]
      · refine ⟨by (try simp (disch := omega) only [go_sem, Nat.reduceEqDiff, Nat.reduceAdd, Nat.reduceSub, Int.reduceAdd, Int.reduceSub, Int.reduceToNat]) <;> omega, run_den 400 ?_⟩
        try simp (disch := omega) only [go_sem, Nat.reduceEqDiff, Nat.reduceAdd, Nat.reduceSub, Int.reduceAdd, Int.reduceSub, Int.reduceToNat]
        split <;> rename_i h3 <;> (try simp only [beq_true, beq_false, Bool.not_eq_true', Bool.not_eq_false'] at h3) <;> simp (disch := omega) only [go_sem, Nat.reduceEqDiff, Nat.reduceAdd, Nat.reduceSub, Int.reduceAdd, Int.reduceSub, Int.reduceToNat, h3] <;> (try simp only [decide_eq_true_eq, decide_eq_false_iff_not, beq_iff_eq, beq_eq_false_iff_ne, bne_iff_ne, bne_eq_false_iff_eq, ne_eq, Decidable.not_not, Bool.and_eq_true, Bool.and_eq_false_iff, Bool.or_eq_true, Bool.or_eq_false_iff, Int.ofNat_lt, Int.ofNat_le, Bool.not_eq_eq_eq_not, Bool.not_true, Bool.not_false] at h3) <;> try simp (disch := omega) only [go_sem, Nat.reduceEqDiff, Nat.reduceAdd, Nat.reduceSub, Int.reduceAdd, Int.reduceSub, Int.reduceToNat]
        · rw [if_pos (by simp [roadEq_t h2, h3])] at hk2
          refine den_fin [some (0, none), some (1, none), some (2, none), some (3, none), some (4, none), some (5, none), some (6, none)] (by (try simp (disch := omega) only [go_sem, Nat.reduceEqDiff, Nat.reduceAdd, Nat.reduceSub, Int.reduceAdd, Int.reduceSub, Int.reduceToNat]) <;> omega) _ (by simp only [go_sem]; rfl) (by rfl) (by rfl) ?_
          simp (disch := omega) only [go_sem, Nat.reduceEqDiff, Nat.reduceAdd, Nat.reduceSub, Int.reduceAdd, Int.reduceSub, Int.reduceToNat]
          try exact hk2
        · rw [if_neg (by simp [h3])] at hk2
          refine ⟨by (try simp (disch := omega) only [go_sem, Nat.reduceEqDiff, Nat.reduceAdd, Nat.reduceSub, Int.reduceAdd, Int.reduceSub, Int.reduceToNat]) <;> omega, hN _ (k + 1) [some (0, none), some (1, none), some (2, none), some (3, none), some (4, none), some (5, none), some (6, none), some (7, none), some (8, none)] (by (try dsimp only); exact ⟨by omega, hk2⟩) (by (try dsimp only); omega) (weak_mk (by rfl) (by rfl) ?_)⟩
          try simp (disch := omega) only [go_sem, Nat.reduceEqDiff, Nat.reduceAdd, Nat.reduceSub, Int.reduceAdd, Int.reduceSub, Int.reduceToNat]
      · rw [if_neg (by simp [roadEq_f h2])] at hk2
        refine ⟨by (try simp (disch := omega) only [go_sem, Nat.reduceEqDiff, Nat.reduceAdd, Nat.reduceSub, Int.reduceAdd, Int.reduceSub, Int.reduceToNat]) <;> omega, run_den 400 ?_⟩
        try simp (disch := omega) only [go_sem, Nat.reduceEqDiff, Nat.reduceAdd, Nat.reduceSub, Int.reduceAdd, Int.reduceSub, Int.reduceToNat]
        refine ⟨by (try simp (disch := omega) only [go_sem, Nat.reduceEqDiff, Nat.reduceAdd, Nat.reduceSub, Int.reduceAdd, Int.reduceSub, Int.reduceToNat]) <;> omega, hN _ (k + 1) [some (0, none), some (1, none), some (2, none), some (3, none), some (4, none), some (5, none), some (6, none), some (7, none), some (8, none)] (by (try dsimp only); exact ⟨by omega, hk2⟩) (by (try dsimp only); omega) (weak_mk (by rfl) (by rfl) ?_)⟩
        try simp (disch := omega) only [go_sem, Nat.reduceEqDiff, Nat.reduceAdd, Nat.reduceSub, Int.reduceAdd, Int.reduceSub, Int.reduceToNat]
    · rw [idxGo_end (by omega)] at hk2
      refine den_fin [some (0, none), some (1, none), some (2, none), some (3, none), some (4, none), some (5, none), some (6, none)] (by (try simp (disch := omega) only [go_sem, Nat.reduceEqDiff, Nat.reduceAdd, Nat.reduceSub, Int.reduceAdd, Int.reduceSub, Int.reduceToNat]) <;> omega) _ (by simp only [go_sem]; rfl) (by rfl) (by rfl) ?_
      simp (disch := omega) only [go_sem, Nat.reduceEqDiff, Nat.reduceAdd, Nat.reduceSub, Int.reduceAdd, Int.reduceSub, Int.reduceToNat]
      try exact hk2
theorem impl_roadIsNumber (r : RoadD) : CallA Try.prog 220 [.ag r.cs] [] (.sc (.bo (roadN r))) [] := by
  refine callA_of Try.func220 (by kernel_rfl) rfl fun E hE => run_den 400 ?_
  simp (disch := omega) only [Try.ntmps220, Try.results220, go_sem, Nat.reduceEqDiff, Nat.reduceAdd, Nat.reduceSub, Int.reduceAdd, Int.reduceSub, Int.reduceToNat]
  refine den_call (by (try simp (disch := omega) only [go_sem, Nat.reduceEqDiff, Nat.reduceAdd, Nat.reduceSub, Int.reduceAdd, Int.reduceSub, Int.reduceToNat]) <;> omega) (impl_isNumber [r.own, r.far, r.port] (by simp)) [some (1, none)] (by simp only [go_sem]; repeat' first | rfl | constructor) (by rfl) (run_den 400 ?_)
  simp (disch := omega) only [go_sem, Nat.reduceEqDiff, Nat.reduceAdd, Nat.reduceSub, Int.reduceAdd, Int.reduceSub, Int.reduceToNat]
  refine den_fin [] (by (try simp (disch := omega) only [go_sem, Nat.reduceEqDiff, Nat.reduceAdd, Nat.reduceSub, Int.reduceAdd, Int.reduceSub, Int.reduceToNat]) <;> omega) _ (by simp only [go_sem]; rfl) (by rfl) (by rfl) ?_
  simp (disch := omega) only [go_sem, Nat.reduceEqDiff, Nat.reduceAdd, Nat.reduceSub, Int.reduceAdd, Int.reduceSub, Int.reduceToNat]
  try simp [roadN, Bool.and_assoc]
theorem spec_l14Road (r : RoadD) : CallA Try.prog 212 [.ag r.cs] [] (.sc (.bo (roadN r))) [] := by
  refine callA_of Try.func212 (by kernel_rfl) rfl fun E hE => run_den 400 ?_
  simp (disch := omega) only [Try.ntmps212, Try.results212, go_sem, Nat.reduceEqDiff, Nat.reduceAdd, Nat.reduceSub, Int.reduceAdd, Int.reduceSub, Int.reduceToNat]
  refine den_call (by (try simp (disch := omega) only [go_sem, Nat.reduceEqDiff, Nat.reduceAdd, Nat.reduceSub, Int.reduceAdd, Int.reduceSub, Int.reduceToNat]) <;> omega) (spec_l14Num _) [] (by simp only [go_sem]; repeat' first | rfl | constructor) (by rfl) (run_den 400 ?_)
  simp (disch := omega) only [go_sem, Nat.reduceEqDiff, Nat.reduceAdd, Nat.reduceSub, Int.reduceAdd, Int.reduceSub, Int.reduceToNat]
  split <;> rename_i h1 <;> (try simp only [beq_true, beq_false, Bool.not_eq_true', Bool.not_eq_false'] at h1) <;> simp (disch := omega) only [go_sem, Nat.reduceEqDiff, Nat.reduceAdd, Nat.reduceSub, Int.reduceAdd, Int.reduceSub, Int.reduceToNat, h1] <;> (try simp only [decide_eq_true_eq, decide_eq_false_iff_not, beq_iff_eq, beq_eq_false_iff_ne, bne_iff_ne, bne_eq_false_iff_eq, ne_eq, Decidable.not_not, Bool.and_eq_true, Bool.and_eq_false_iff, Bool.or_eq_true, Bool.or_eq_false_iff, Int.ofNat_lt, Int.ofNat_le, Bool.not_eq_eq_eq_not, Bool.not_true, Bool.not_false] at h1) <;> try simp (disch := omega) only [go_sem, Nat.reduceEqDiff, Nat.reduceAdd, Nat.reduceSub, Int.reduceAdd, Int.reduceSub, Int.reduceToNat]
  · refine den_call (by (try simp (disch := omega) only [go_sem, Nat.reduceEqDiff, Nat.reduceAdd, Nat.reduceSub, Int.reduceAdd, Int.reduceSub, Int.reduceToNat]) <;> omega) (spec_l14Num _) [] (by simp only [go_sem]; repeat' first | rfl | constructor) (by rfl) (run_den 400 ?_)
    simp (disch := omega) only [go_sem, Nat.reduceEqDiff, Nat.reduceAdd, Nat.reduceSub, Int.reduceAdd, Int.reduceSub, Int.reduceToNat]
    split <;> rename_i h2 <;> (try simp only [beq_true, beq_false, Bool.not_eq_true', Bool.not_eq_false'] at h2) <;> simp (disch := omega) only [go_sem, Nat.reduceEqDiff, Nat.reduceAdd, Nat.reduceSub, Int.reduceAdd, Int.reduceSub, Int.reduceToNat, h2] <;> (try simp only [decide_eq_true_eq, decide_eq_false_iff_not, beq_iff_eq, beq_eq_false_iff_ne, bne_iff_ne, bne_eq_false_iff_eq, ne_eq, Decidable.not_not, Bool.and_eq_true, Bool.and_eq_false_iff, Bool.or_eq_true, Bool.or_eq_false_iff, Int.ofNat_lt, Int.ofNat_le, Bool.not_eq_eq_eq_not, Bool.not_true, Bool.not_false] at h2) <;> try simp (disch := omega) only [go_sem, Nat.reduceEqDiff, Nat.reduceAdd, Nat.reduceSub, Int.reduceAdd, Int.reduceSub, Int.reduceToNat]
    · refine den_call (by (try simp (disch := omega) only [go_sem, Nat.reduceEqDiff, Nat.reduceAdd, Nat.reduceSub, Int.reduceAdd, Int.reduceSub, Int.reduceToNat]) <;> omega) (spec_l14Num _) [] (by simp only [go_sem]; repeat' first | rfl | constructor) (by rfl) (run_den 400 ?_)
      simp (disch := omega) only [go_sem, Nat.reduceEqDiff, Nat.reduceAdd, Nat.reduceSub, Int.reduceAdd, Int.reduceSub, Int.reduceToNat]
      refine den_fin [] (by (try simp (disch := omega) only [go_sem, Nat.reduceEqDiff, Nat.reduceAdd, Nat.reduceSub, Int.reduceAdd, Int.reduceSub, Int.reduceToNat]) <;> omega) _ (by simp only [go_sem]; rfl) (by rfl) (by rfl) ?_
      simp (disch := omega) only [go_sem, Nat.reduceEqDiff, Nat.reduceAdd, Nat.reduceSub, Int.reduceAdd, Int.reduceSub, Int.reduceToNat]
      simp [roadN, h1, h2]
    · refine den_fin [] (by (try simp (disch := omega) only [go_sem, Nat.reduceEqDiff, Nat.reduceAdd, Nat.reduceSub, Int.reduceAdd, Int.reduceSub, Int.reduceToNat]) <;> omega) _ (by simp only [go_sem]; rfl) (by rfl) (by rfl) ?_
      simp (disch := omega) only [go_sem, Nat.reduceEqDiff, Nat.reduceAdd, Nat.reduceSub, Int.reduceAdd, Int.reduceSub, Int.reduceToNat]
      simp [roadN, h1, h2]
  · refine den_fin [] (by (try simp (disch := omega) only [go_sem, Nat.reduceEqDiff, Nat.reduceAdd, Nat.reduceSub, Int.reduceAdd, Int.reduceSub, Int.reduceToNat]) <;> omega) _ (by simp only [go_sem]; rfl) (by rfl) (by rfl) ?_
    simp (disch := omega) only [go_sem, Nat.reduceEqDiff, Nat.reduceAdd, Nat.reduceSub, Int.reduceAdd, Int.reduceSub, Int.reduceToNat]
    simp [roadN, h1]
theorem impl_OutOk (x : OutD) : CallA Try.prog 217 [.ag x.cs] [] (.sc (.bo (outOk x))) [] := by
  refine callA_of Try.func217 (by kernel_rfl) rfl fun E hE => run_den 400 ?_
  simp (disch := omega) only [Try.ntmps217, Try.results217, go_sem, Nat.reduceEqDiff, Nat.reduceAdd, Nat.reduceSub, Int.reduceAdd, Int.reduceSub, Int.reduceToNat]
  refine den_call (by (try simp (disch := omega) only [go_sem, Nat.reduceEqDiff, Nat.reduceAdd, Nat.reduceSub, Int.reduceAdd, Int.reduceSub, Int.reduceToNat]) <;> omega) (impl_isNumber [x.base] (by simp)) [some (1, none)] (by simp only [go_sem]; repeat' first | rfl | constructor) (by rfl) (run_den 400 ?_)
  simp (disch := omega) only [go_sem, Nat.reduceEqDiff, Nat.reduceAdd, Nat.reduceSub, Int.reduceAdd, Int.reduceSub, Int.reduceToNat]
  have e1 : [x.base].all isN = isN x.base := by simp
  rw [e1]
  try simp (disch := omega) only [go_sem, Nat.reduceEqDiff, Nat.reduceAdd, Nat.reduceSub, Int.reduceAdd, Int.reduceSub, Int.reduceToNat]
  split <;> rename_i h1 <;> (try simp only [beq_true, beq_false, Bool.not_eq_true', Bool.not_eq_false'] at h1) <;> simp (disch := omega) only [go_sem, Nat.reduceEqDiff, Nat.reduceAdd, Nat.reduceSub, Int.reduceAdd, Int.reduceSub, Int.reduceToNat, h1] <;> (try simp only [decide_eq_true_eq, decide_eq_false_iff_not, beq_iff_eq, beq_eq_false_iff_ne, bne_iff_ne, bne_eq_false_iff_eq, ne_eq, Decidable.not_not, Bool.and_eq_true, Bool.and_eq_false_iff, Bool.or_eq_true, Bool.or_eq_false_iff, Int.ofNat_lt, Int.ofNat_le, Bool.not_eq_eq_eq_not, Bool.not_true, Bool.not_false] at h1) <;> try simp (disch := omega) only [go_sem, Nat.reduceEqDiff, Nat.reduceAdd, Nat.reduceSub, Int.reduceAdd, Int.reduceSub, Int.reduceToNat]
  · refine den_call (by (try simp (disch := omega) only [go_sem, Nat.reduceEqDiff, Nat.reduceAdd, Nat.reduceSub, Int.reduceAdd, Int.reduceSub, Int.reduceToNat]) <;> omega) (impl_within _ _ _) [] (by simp only [go_sem]; repeat' first | rfl | constructor) (by rfl) (run_den 400 ?_)
    simp (disch := omega) only [go_sem, Nat.reduceEqDiff, Nat.reduceAdd, Nat.reduceSub, Int.reduceAdd, Int.reduceSub, Int.reduceToNat]
    split <;> rename_i h2 <;> (try simp only [beq_true, beq_false, Bool.not_eq_true', Bool.not_eq_false'] at h2) <;> simp (disch := omega) only [go_sem, Nat.reduceEqDiff, Nat.reduceAdd, Nat.reduceSub, Int.reduceAdd, Int.reduceSub, Int.reduceToNat, h2] <;> (try simp only [decide_eq_true_eq, decide_eq_false_iff_not, beq_iff_eq, beq_eq_false_iff_ne, bne_iff_ne, bne_eq_false_iff_eq, ne_eq, Decidable.not_not, Bool.and_eq_true, Bool.and_eq_false_iff, Bool.or_eq_true, Bool.or_eq_false_iff, Int.ofNat_lt, Int.ofNat_le, Bool.not_eq_eq_eq_not, Bool.not_true, Bool.not_false] at h2) <;> try simp (disch := omega) only [go_sem, Nat.reduceEqDiff, Nat.reduceAdd, Nat.reduceSub, Int.reduceAdd, Int.reduceSub, Int.reduceToNat]
    · split <;> rename_i h3 <;> (try simp only [beq_true, beq_false, Bool.not_eq_true', Bool.not_eq_false'] at h3) <;> simp (disch := omega) only [go_sem, Nat.reduceEqDiff, Nat.reduceAdd, Nat.reduceSub, Int.reduceAdd, Int.reduceSub, Int.reduceToNat, h3] <;> (try simp only [decide_eq_true_eq, decide_eq_false_iff_not, beq_iff_eq, beq_eq_false_iff_ne, bne_iff_ne, bne_eq_false_iff_eq, ne_eq, Decidable.not_not, Bool.and_eq_true, Bool.and_eq_false_iff, Bool.or_eq_true, Bool.or_eq_false_iff, Int.ofNat_lt, Int.ofNat_le, Bool.not_eq_eq_eq_not, Bool.not_true, Bool.not_false] at h3) <;> try simp (disch := omega) only [go_sem, Nat.reduceEqDiff, Nat.reduceAdd, Nat.reduceSub, Int.reduceAdd, Int.reduceSub, Int.reduceToNat]
      · refine den_call (by (try simp (disch := omega) only [go_sem, Nat.reduceEqDiff, Nat.reduceAdd, Nat.reduceSub, Int.reduceAdd, Int.reduceSub, Int.reduceToNat]) <;> omega) (impl_within _ _ _) [] (by simp only [go_sem]; repeat' first | rfl | constructor) (by rfl) (run_den 400 ?_)
        simp (disch := omega) only [go_sem, Nat.reduceEqDiff, Nat.reduceAdd, Nat.reduceSub, Int.reduceAdd, Int.reduceSub, Int.reduceToNat]
        refine den_fin [] (by (try simp (disch := omega) only [go_sem, Nat.reduceEqDiff, Nat.reduceAdd, Nat.reduceSub, Int.reduceAdd, Int.reduceSub, Int.reduceToNat]) <;> omega) _ (by simp only [go_sem]; rfl) (by rfl) (by rfl) ?_
        simp (disch := omega) only [go_sem, Nat.reduceEqDiff, Nat.reduceAdd, Nat.reduceSub, Int.reduceAdd, Int.reduceSub, Int.reduceToNat]
        simp [outOk, h1, h2, h3]
      · refine den_fin [] (by (try simp (disch := omega) only [go_sem, Nat.reduceEqDiff, Nat.reduceAdd, Nat.reduceSub, Int.reduceAdd, Int.reduceSub, Int.reduceToNat]) <;> omega) _ (by simp only [go_sem]; rfl) (by rfl) (by rfl) ?_
        simp (disch := omega) only [go_sem, Nat.reduceEqDiff, Nat.reduceAdd, Nat.reduceSub, Int.reduceAdd, Int.reduceSub, Int.reduceToNat]
        simp [outOk, h1, h2, h3]
    · refine den_fin [] (by (try simp (disch := omega) only [go_sem, Nat.reduceEqDiff, Nat.reduceAdd, Nat.reduceSub, Int.reduceAdd, Int.reduceSub, Int.reduceToNat]) <;> omega) _ (by simp only [go_sem]; rfl) (by rfl) (by rfl) ?_
      simp (disch := omega) only [go_sem, Nat.reduceEqDiff, Nat.reduceAdd, Nat.reduceSub, Int.reduceAdd, Int.reduceSub, Int.reduceToNat]
      simp [outOk, h1, h2]
  · refine den_fin [] (by (try simp (disch := omega) only [go_sem, Nat.reduceEqDiff, Nat.reduceAdd, Nat.reduceSub, Int.reduceAdd, Int.reduceSub, Int.reduceToNat]) <;> omega) _ (by simp only [go_sem]; rfl) (by rfl) (by rfl) ?_
    simp (disch := omega) only [go_sem, Nat.reduceEqDiff, Nat.reduceAdd, Nat.reduceSub, Int.reduceAdd, Int.reduceSub, Int.reduceToNat]
    simp [outOk, h1]
theorem isN_inR (n : Int) : inR n 0 1000000000 = isN n := rfl
theorem spec_OutOk (x : OutD) : CallA Try.prog 209 [.ag x.cs] [] (.sc (.bo (outOk x))) [] := by
  refine callA_of Try.func209 (by kernel_rfl) rfl fun E hE => run_den 400 ?_
  simp (disch := omega) only [Try.ntmps209, Try.results209, go_sem, Nat.reduceEqDiff, Nat.reduceAdd, Nat.reduceSub, Int.reduceAdd, Int.reduceSub, Int.reduceToNat]
  refine den_call (by (try simp (disch := omega) only [go_sem, Nat.reduceEqDiff, Nat.reduceAdd, Nat.reduceSub, Int.reduceAdd, Int.reduceSub, Int.reduceToNat]) <;> omega) (spec_l01In _ _ _) [] (by simp only [go_sem]; repeat' first | rfl | constructor) (by rfl) (run_den 400 ?_)
  simp (disch := omega) only [go_sem, Nat.reduceEqDiff, Nat.reduceAdd, Nat.reduceSub, Int.reduceAdd, Int.reduceSub, Int.reduceToNat]
  rw [isN_inR]
  split <;> rename_i h1 <;> (try simp only [beq_true, beq_false, Bool.not_eq_true', Bool.not_eq_false'] at h1) <;> simp (disch := omega) only [go_sem, Nat.reduceEqDiff, Nat.reduceAdd, Nat.reduceSub, Int.reduceAdd, Int.reduceSub, Int.reduceToNat, h1] <;> (try simp only [decide_eq_true_eq, decide_eq_false_iff_not, beq_iff_eq, beq_eq_false_iff_ne, bne_iff_ne, bne_eq_false_iff_eq, ne_eq, Decidable.not_not, Bool.and_eq_true, Bool.and_eq_false_iff, Bool.or_eq_true, Bool.or_eq_false_iff, Int.ofNat_lt, Int.ofNat_le, Bool.not_eq_eq_eq_not, Bool.not_true, Bool.not_false] at h1) <;> try simp (disch := omega) only [go_sem, Nat.reduceEqDiff, Nat.reduceAdd, Nat.reduceSub, Int.reduceAdd, Int.reduceSub, Int.reduceToNat]
  · refine den_call (by (try simp (disch := omega) only [go_sem, Nat.reduceEqDiff, Nat.reduceAdd, Nat.reduceSub, Int.reduceAdd, Int.reduceSub, Int.reduceToNat]) <;> omega) (spec_l01In _ _ _) [] (by simp only [go_sem]; repeat' first | rfl | constructor) (by rfl) (run_den 400 ?_)
    simp (disch := omega) only [go_sem, Nat.reduceEqDiff, Nat.reduceAdd, Nat.reduceSub, Int.reduceAdd, Int.reduceSub, Int.reduceToNat]
    split <;> rename_i h2 <;> (try simp only [beq_true, beq_false, Bool.not_eq_true', Bool.not_eq_false'] at h2) <;> simp (disch := omega) only [go_sem, Nat.reduceEqDiff, Nat.reduceAdd, Nat.reduceSub, Int.reduceAdd, Int.reduceSub, Int.reduceToNat, h2] <;> (try simp only [decide_eq_true_eq, decide_eq_false_iff_not, beq_iff_eq, beq_eq_false_iff_ne, bne_iff_ne, bne_eq_false_iff_eq, ne_eq, Decidable.not_not, Bool.and_eq_true, Bool.and_eq_false_iff, Bool.or_eq_true, Bool.or_eq_false_iff, Int.ofNat_lt, Int.ofNat_le, Bool.not_eq_eq_eq_not, Bool.not_true, Bool.not_false] at h2) <;> try simp (disch := omega) only [go_sem, Nat.reduceEqDiff, Nat.reduceAdd, Nat.reduceSub, Int.reduceAdd, Int.reduceSub, Int.reduceToNat]
    · split <;> rename_i h3 <;> (try simp only [beq_true, beq_false, Bool.not_eq_true', Bool.not_eq_false'] at h3) <;> simp (disch := omega) only [go_sem, Nat.reduceEqDiff, Nat.reduceAdd, Nat.reduceSub, Int.reduceAdd, Int.reduceSub, Int.reduceToNat, h3] <;> (try simp only [decide_eq_true_eq, decide_eq_false_iff_not, beq_iff_eq, beq_eq_false_iff_ne, bne_iff_ne, bne_eq_false_iff_eq, ne_eq, Decidable.not_not, Bool.and_eq_true, Bool.and_eq_false_iff, Bool.or_eq_true, Bool.or_eq_false_iff, Int.ofNat_lt, Int.ofNat_le, Bool.not_eq_eq_eq_not, Bool.not_true, Bool.not_false] at h3) <;> try simp (disch := omega) only [go_sem, Nat.reduceEqDiff, Nat.reduceAdd, Nat.reduceSub, Int.reduceAdd, Int.reduceSub, Int.reduceToNat]
      · refine den_call (by (try simp (disch := omega) only [go_sem, Nat.reduceEqDiff, Nat.reduceAdd, Nat.reduceSub, Int.reduceAdd, Int.reduceSub, Int.reduceToNat]) <;> omega) (spec_l01In _ _ _) [] (by simp only [go_sem]; repeat' first | rfl | constructor) (by rfl) (run_den 400 ?_)
        simp (disch := omega) only [go_sem, Nat.reduceEqDiff, Nat.reduceAdd, Nat.reduceSub, Int.reduceAdd, Int.reduceSub, Int.reduceToNat]
        refine den_fin [] (by (try simp (disch := omega) only [go_sem, Nat.reduceEqDiff, Nat.reduceAdd, Nat.reduceSub, Int.reduceAdd, Int.reduceSub, Int.reduceToNat]) <;> omega) _ (by simp only [go_sem]; rfl) (by rfl) (by rfl) ?_
        simp (disch := omega) only [go_sem, Nat.reduceEqDiff, Nat.reduceAdd, Nat.reduceSub, Int.reduceAdd, Int.reduceSub, Int.reduceToNat]
        simp [outOk, h1, h2, h3]
      · refine den_fin [] (by (try simp (disch := omega) only [go_sem, Nat.reduceEqDiff, Nat.reduceAdd, Nat.reduceSub, Int.reduceAdd, Int.reduceSub, Int.reduceToNat]) <;> omega) _ (by simp only [go_sem]; rfl) (by rfl) (by rfl) ?_
        simp (disch := omega) only [go_sem, Nat.reduceEqDiff, Nat.reduceAdd, Nat.reduceSub, Int.reduceAdd, Int.reduceSub, Int.reduceToNat]
        simp [outOk, h1, h2, h3]
    · refine den_fin [] (by (try simp (disch := omega) only [go_sem, Nat.reduceEqDiff, Nat.reduceAdd, Nat.reduceSub, Int.reduceAdd, Int.reduceSub, Int.reduceToNat]) <;> omega) _ (by simp only [go_sem]; rfl) (by rfl) (by rfl) ?_
      simp (disch := omega) only [go_sem, Nat.reduceEqDiff, Nat.reduceAdd, Nat.reduceSub, Int.reduceAdd, Int.reduceSub, Int.reduceToNat]
      simp [outOk, h1, h2]
  · refine den_fin [] (by (try simp (disch := omega) only [go_sem, Nat.reduceEqDiff, Nat.reduceAdd, Nat.reduceSub, Int.reduceAdd, Int.reduceSub, Int.reduceToNat]) <;> omega) _ (by simp only [go_sem]; rfl) (by rfl) (by rfl) ?_
    simp (disch := omega) only [go_sem, Nat.reduceEqDiff, Nat.reduceAdd, Nat.reduceSub, Int.reduceAdd, Int.reduceSub, Int.reduceToNat]
    simp [outOk, h1]
theorem impl_HeldOf (p : PiecesD) (hl : p.list.length ≤ 1048576) : CallA Try.prog 233 [.ag (p.cs 0)] (p.hp false) (.sc (.int .i64 (heldOf p))) (p.hp false) := by
  refine callA_of Try.func233 (by kernel_rfl) rfl fun E hE => run_den 400 ?_
  simp (disch := omega) only [Try.ntmps233, Try.results233, go_sem, Nat.reduceEqDiff, Nat.reduceAdd, Nat.reduceSub, Int.reduceAdd, Int.reduceSub, Int.reduceToNat]
  refine den_lp 1 hE (fun s (x : Nat × Int) => s.at [0, 1, 5, 6, 7, 8, 9, 13, 14, 15, 16, 17, 18, 19, 20, 21] [(12, .sc (.int .i64 (x.1 : Nat))), (3, .sc (.int .i64 x.2))] (s.hp)) (fun (x : Nat × Int) => x.1 ≤ p.list.length ∧ heldGo x.2 (p.list.drop x.1) = heldOf p) (fun (x : Nat × Int) => p.list.length - x.1) (0, (p.ready.length : Int)) [some (0, none), some (1, none)] (by (try simp (disch := omega) only [go_sem, Nat.reduceEqDiff, Nat.reduceAdd, Nat.reduceSub, Int.reduceAdd, Int.reduceSub, Int.reduceToNat]) <;> omega) (⟨Nat.zero_le _, rfl⟩) (weak_mk (by rfl) (by rfl) ?_) fun x hx N hN => ?_
  · try simp (disch := omega) only [go_sem, Nat.reduceEqDiff, Nat.reduceAdd, Nat.reduceSub, Int.reduceAdd, Int.reduceSub, Int.reduceToNat]
  · obtain ⟨k, n⟩ := x
    obtain ⟨hk1, hk2⟩ := hx
    dsimp only at hk1 hk2
    refine run_den 400 ?_
    try simp (disch := omega) only [go_sem, Nat.reduceEqDiff, Nat.reduceAdd, Nat.reduceSub, Int.reduceAdd, Int.reduceSub, Int.reduceToNat]
    split <;> rename_i h <;> (try simp only [beq_true, beq_false, Bool.not_eq_true', Bool.not_eq_false'] at h) <;> simp (disch := omega) only [go_sem, Nat.reduceEqDiff, Nat.reduceAdd, Nat.reduceSub, Int.reduceAdd, Int.reduceSub, Int.reduceToNat, h] <;> (try simp only [decide_eq_true_eq, decide_eq_false_iff_not, beq_iff_eq, beq_eq_false_iff_ne, bne_iff_ne, bne_eq_false_iff_eq, ne_eq, Decidable.not_not, Bool.and_eq_true, Bool.and_eq_false_iff, Bool.or_eq_true, Bool.or_eq_false_iff, Int.ofNat_lt, Int.ofNat_le, Bool.not_eq_eq_eq_not, Bool.not_true, Bool.not_false] at h) <;> try simp (disch := omega) only [go_sem, Nat.reduceEqDiff, Nat.reduceAdd, Nat.reduceSub, Int.reduceAdd, Int.reduceSub, Int.reduceToNat]
    · rw [heldGo_step h] at hk2
      try simp (disch := omega) only [go_sem, Nat.reduceEqDiff, Nat.reduceAdd, Nat.reduceSub, Int.reduceAdd, Int.reduceSub, Int.reduceToNat]
      refine ⟨by (try simp (disch := omega) only [go_sem, Nat.reduceEqDiff, Nat.reduceAdd, Nat.reduceSub, Int.reduceAdd, Int.reduceSub, Int.reduceToNat]) <;> omega, hN _ (k + 1, IntKind.i64.wrap (n + (p.list[k].text.length : Int))) [some (0, none), some (1, none)] (by (try dsimp only); exact ⟨by omega, hk2⟩) (by (try dsimp only); omega) (weak_mk (by rfl) (by rfl) ?_)⟩
      try simp (disch := omega) only [go_sem, Nat.reduceEqDiff, Nat.reduceAdd, Nat.reduceSub, Int.reduceAdd, Int.reduceSub, Int.reduceToNat]
    · rw [List.drop_eq_nil_of_le (by omega), heldGo] at hk2
      refine den_fin [some (0, none)] (by (try simp (disch := omega) only [go_sem, Nat.reduceEqDiff, Nat.reduceAdd, Nat.reduceSub, Int.reduceAdd, Int.reduceSub, Int.reduceToNat]) <;> omega) _ (by simp only [go_sem]; rfl) (by rfl) (by rfl) ?_
      simp (disch := omega) only [go_sem, Nat.reduceEqDiff, Nat.reduceAdd, Nat.reduceSub, Int.reduceAdd, Int.reduceSub, Int.reduceToNat]
      try exact hk2

theorem spec_HeldOf (p : PiecesD) (hl : p.list.length ≤ 1048576) : CallA Try.prog 230 [.ag (p.cs 0)] (p.hp false) (.sc (.int .i64 (heldOf p))) (p.hp false) := by
  refine callA_of Try.func230 (by kernel_rfl) rfl fun E hE => run_den 400 ?_
  simp (disch := omega) only [Try.ntmps230, Try.results230, go_sem, Nat.reduceEqDiff, Nat.reduceAdd, Nat.reduceSub, Int.reduceAdd, Int.reduceSub, Int.reduceToNat]
  refine den_lp 1 hE (fun s (x : Nat × Int) => s.at [0, 5, 6, 7, 8, 9, 10, 11, 12, 13, 14, 15, 16, 17, 18, 19, 20, 21, 22, 23] [(4, .sc (.int .i64 (x.1 : Nat))), (3, .sc (.int .i64 x.2))] (s.hp)) (fun (x : Nat × Int) => x.1 ≤ p.list.length ∧ heldGo x.2 (p.list.drop x.1) = heldOf p) (fun (x : Nat × Int) => p.list.length - x.1) (0, (p.ready.length : Int)) [some (0, none), some (1, none)] (by (try simp (disch := omega) only [go_sem, Nat.reduceEqDiff, Nat.reduceAdd, Nat.reduceSub, Int.reduceAdd, Int.reduceSub, Int.reduceToNat]) <;> omega) (⟨Nat.zero_le _, rfl⟩) (weak_mk (by rfl) (by rfl) ?_) fun x hx N hN => ?_
  · try simp (disch := omega) only [go_sem, Nat.reduceEqDiff, Nat.reduceAdd, Nat.reduceSub, Int.reduceAdd, Int.reduceSub, Int.reduceToNat]
  · obtain ⟨k, n⟩ := x
    obtain ⟨hk1, hk2⟩ := hx
    dsimp only at hk1 hk2
    refine run_den 400 ?_
    try simp (disch := omega) only [go_sem, Nat.reduceEqDiff, Nat.reduceAdd, Nat.reduceSub, Int.reduceAdd, Int.reduceSub, Int.reduceToNat]
    split <;> rename_i h <;> (try simp only [beq_true, beq_false, Bool.not_eq_true', Bool.not_eq_false'] at h) <;> simp (disch := omega) only [go_sem, Nat.reduceEqDiff, Nat.reduceAdd, Nat.reduceSub, Int.reduceAdd, Int.reduceSub, Int.reduceToNat, h] <;> (try simp only [decide_eq_true_eq, decide_eq_false_iff_not, beq_iff_eq, beq_eq_false_iff_ne, bne_iff_ne, bne_eq_false_iff_eq, ne_eq, Decidable.not_not, Bool.and_eq_true, Bool.and_eq_false_iff, Bool.or_eq_true, Bool.or_eq_false_iff, Int.ofNat_lt, Int.ofNat_le, Bool.not_eq_eq_eq_not, Bool.not_true, Bool.not_false] at h) <;> try simp (disch := omega) only [go_sem, Nat.reduceEqDiff, Nat.reduceAdd, Nat.reduceSub, Int.reduceAdd, Int.reduceSub, Int.reduceToNat]
    · rw [heldGo_step h] at hk2
      try simp (disch := omega) only [go_sem, Nat.reduceEqDiff, Nat.reduceAdd, Nat.reduceSub, Int.reduceAdd, Int.reduceSub, Int.reduceToNat]
      refine ⟨by (try simp (disch := omega) only [go_sem, Nat.reduceEqDiff, Nat.reduceAdd, Nat.reduceSub, Int.reduceAdd, Int.reduceSub, Int.reduceToNat]) <;> omega, hN _ (k + 1, IntKind.i64.wrap (n + (p.list[k].text.length : Int))) [some (0, none), some (1, none)] (by (try dsimp only); exact ⟨by omega, hk2⟩) (by (try dsimp only); omega) (weak_mk (by rfl) (by rfl) ?_)⟩
      try simp (disch := omega) only [go_sem, Nat.reduceEqDiff, Nat.reduceAdd, Nat.reduceSub, Int.reduceAdd, Int.reduceSub, Int.reduceToNat]
    · rw [List.drop_eq_nil_of_le (by omega), heldGo] at hk2
      refine den_fin [some (0, none)] (by (try simp (disch := omega) only [go_sem, Nat.reduceEqDiff, Nat.reduceAdd, Nat.reduceSub, Int.reduceAdd, Int.reduceSub, Int.reduceToNat]) <;> omega) _ (by simp only [go_sem]; rfl) (by rfl) (by rfl) ?_
      simp (disch := omega) only [go_sem, Nat.reduceEqDiff, Nat.reduceAdd, Nat.reduceSub, Int.reduceAdd, Int.reduceSub, Int.reduceToNat]
      try exact hk2

end
section
open Go.RowKit
set_option linter.unusedVariables false
set_option linter.unusedSimpArgs false
set_option maxRecDepth 20000

theorem impl_BucketOk (b : BucketD) : CallA Try.prog 216 [.ag b.cs] [] (.sc (.bo (bucketOk b))) [] := by
  refine callA_of Try.func216 (by kernel_rfl) rfl fun E hE => run_den 400 ?_
  simp (disch := omega) only [Try.ntmps216, Try.results216, go_sem, Nat.reduceEqDiff, Nat.reduceAdd, Nat.reduceSub, Int.reduceAdd, Int.reduceSub, Int.reduceToNat]
  refine den_call (by (try simp (disch := omega) only [go_sem, Nat.reduceEqDiff, Nat.reduceAdd, Nat.reduceSub, Int.reduceAdd, Int.reduceSub, Int.reduceToNat]) <;> omega) (impl_within _ _ _) [] (by simp only [go_sem]; repeat' first | rfl | constructor) (by rfl) (run_den 400 ?_)
  simp (disch := omega) only [go_sem, Nat.reduceEqDiff, Nat.reduceAdd, Nat.reduceSub, Int.reduceAdd, Int.reduceSub, Int.reduceToNat]
  split <;> rename_i h1 <;> (try simp only [beq_true, beq_false, Bool.not_eq_true', Bool.not_eq_false'] at h1) <;> simp (disch := omega) only [go_sem, Nat.reduceEqDiff, Nat.reduceAdd, Nat.reduceSub, Int.reduceAdd, Int.reduceSub, Int.reduceToNat, h1] <;> (try simp only [decide_eq_true_eq, decide_eq_false_iff_not, beq_iff_eq, beq_eq_false_iff_ne, bne_iff_ne, bne_eq_false_iff_eq, ne_eq, Decidable.not_not, Bool.and_eq_true, Bool.and_eq_false_iff, Bool.or_eq_true, Bool.or_eq_false_iff, Int.ofNat_lt, Int.ofNat_le, Bool.not_eq_eq_eq_not, Bool.not_true, Bool.not_false] at h1) <;> try simp (disch := omega) only [go_sem, Nat.reduceEqDiff, Nat.reduceAdd, Nat.reduceSub, Int.reduceAdd, Int.reduceSub, Int.reduceToNat]
  · refine den_call (by (try simp (disch := omega) only [go_sem, Nat.reduceEqDiff, Nat.reduceAdd, Nat.reduceSub, Int.reduceAdd, Int.reduceSub, Int.reduceToNat]) <;> omega) (impl_within _ _ _) [] (by simp only [go_sem]; repeat' first | rfl | constructor) (by rfl) (run_den 400 ?_)
    simp (disch := omega) only [go_sem, Nat.reduceEqDiff, Nat.reduceAdd, Nat.reduceSub, Int.reduceAdd, Int.reduceSub, Int.reduceToNat]
    split <;> rename_i h2 <;> (try simp only [beq_true, beq_false, Bool.not_eq_true', Bool.not_eq_false'] at h2) <;> simp (disch := omega) only [go_sem, Nat.reduceEqDiff, Nat.reduceAdd, Nat.reduceSub, Int.reduceAdd, Int.reduceSub, Int.reduceToNat, h2] <;> (try simp only [decide_eq_true_eq, decide_eq_false_iff_not, beq_iff_eq, beq_eq_false_iff_ne, bne_iff_ne, bne_eq_false_iff_eq, ne_eq, Decidable.not_not, Bool.and_eq_true, Bool.and_eq_false_iff, Bool.or_eq_true, Bool.or_eq_false_iff, Int.ofNat_lt, Int.ofNat_le, Bool.not_eq_eq_eq_not, Bool.not_true, Bool.not_false] at h2) <;> try simp (disch := omega) only [go_sem, Nat.reduceEqDiff, Nat.reduceAdd, Nat.reduceSub, Int.reduceAdd, Int.reduceSub, Int.reduceToNat]
    · refine den_call (by (try simp (disch := omega) only [go_sem, Nat.reduceEqDiff, Nat.reduceAdd, Nat.reduceSub, Int.reduceAdd, Int.reduceSub, Int.reduceToNat]) <;> omega) (impl_within _ _ _) [] (by simp only [go_sem]; repeat' first | rfl | constructor) (by rfl) (run_den 400 ?_)
      simp (disch := omega) only [go_sem, Nat.reduceEqDiff, Nat.reduceAdd, Nat.reduceSub, Int.reduceAdd, Int.reduceSub, Int.reduceToNat]
      refine den_fin [] (by (try simp (disch := omega) only [go_sem, Nat.reduceEqDiff, Nat.reduceAdd, Nat.reduceSub, Int.reduceAdd, Int.reduceSub, Int.reduceToNat]) <;> omega) _ (by simp only [go_sem]; rfl) (by rfl) (by rfl) ?_
      simp (disch := omega) only [go_sem, Nat.reduceEqDiff, Nat.reduceAdd, Nat.reduceSub, Int.reduceAdd, Int.reduceSub, Int.reduceToNat]
      simp [bucketOk, h1, h2]
    · refine den_fin [] (by (try simp (disch := omega) only [go_sem, Nat.reduceEqDiff, Nat.reduceAdd, Nat.reduceSub, Int.reduceAdd, Int.reduceSub, Int.reduceToNat]) <;> omega) _ (by simp only [go_sem]; rfl) (by rfl) (by rfl) ?_
      simp (disch := omega) only [go_sem, Nat.reduceEqDiff, Nat.reduceAdd, Nat.reduceSub, Int.reduceAdd, Int.reduceSub, Int.reduceToNat]
      simp [bucketOk, h1, h2]
  · refine den_fin [] (by (try simp (disch := omega) only [go_sem, Nat.reduceEqDiff, Nat.reduceAdd, Nat.reduceSub, Int.reduceAdd, Int.reduceSub, Int.reduceToNat]) <;> omega) _ (by simp only [go_sem]; rfl) (by rfl) (by rfl) ?_
    simp (disch := omega) only [go_sem, Nat.reduceEqDiff, Nat.reduceAdd, Nat.reduceSub, Int.reduceAdd, Int.reduceSub, Int.reduceToNat]
    simp [bucketOk, h1]
theorem spec_BucketOk (b : BucketD) : CallA Try.prog 208 [.ag b.cs] [] (.sc (.bo (bucketOk b))) [] := by
  refine callA_of Try.func208 (by kernel_rfl) rfl fun E hE => run_den 400 ?_
  simp (disch := omega) only [Try.ntmps208, Try.results208, go_sem, Nat.reduceEqDiff, Nat.reduceAdd, Nat.reduceSub, Int.reduceAdd, Int.reduceSub, Int.reduceToNat]
  refine den_call (by (try simp (disch := omega) only [go_sem, Nat.reduceEqDiff, Nat.reduceAdd, Nat.reduceSub, Int.reduceAdd, Int.reduceSub, Int.reduceToNat]) <;> omega) (spec_l01In _ _ _) [] (by simp only [go_sem]; repeat' first | rfl | constructor) (by rfl) (run_den 400 ?_)
  simp (disch := omega) only [go_sem, Nat.reduceEqDiff, Nat.reduceAdd, Nat.reduceSub, Int.reduceAdd, Int.reduceSub, Int.reduceToNat]
  split <;> rename_i h1 <;> (try simp only [beq_true, beq_false, Bool.not_eq_true', Bool.not_eq_false'] at h1) <;> simp (disch := omega) only [go_sem, Nat.reduceEqDiff, Nat.reduceAdd, Nat.reduceSub, Int.reduceAdd, Int.reduceSub, Int.reduceToNat, h1] <;> (try simp only [decide_eq_true_eq, decide_eq_false_iff_not, beq_iff_eq, beq_eq_false_iff_ne, bne_iff_ne, bne_eq_false_iff_eq, ne_eq, Decidable.not_not, Bool.and_eq_true, Bool.and_eq_false_iff, Bool.or_eq_true, Bool.or_eq_false_iff, Int.ofNat_lt, Int.ofNat_le, Bool.not_eq_eq_eq_not, Bool.not_true, Bool.not_false] at h1) <;> try simp (disch := omega) only [go_sem, Nat.reduceEqDiff, Nat.reduceAdd, Nat.reduceSub, Int.reduceAdd, Int.reduceSub, Int.reduceToNat]
  · refine den_call (by (try simp (disch := omega) only [go_sem, Nat.reduceEqDiff, Nat.reduceAdd, Nat.reduceSub, Int.reduceAdd, Int.reduceSub, Int.reduceToNat]) <;> omega) (spec_l01In _ _ _) [] (by simp only [go_sem]; repeat' first | rfl | constructor) (by rfl) (run_den 400 ?_)
    simp (disch := omega) only [go_sem, Nat.reduceEqDiff, Nat.reduceAdd, Nat.reduceSub, Int.reduceAdd, Int.reduceSub, Int.reduceToNat]
    split <;> rename_i h2 <;> (try simp only [beq_true, beq_false, Bool.not_eq_true', Bool.not_eq_false'] at h2) <;> simp (disch := omega) only [go_sem, Nat.reduceEqDiff, Nat.reduceAdd, Nat.reduceSub, Int.reduceAdd, Int.reduceSub, Int.reduceToNat, h2] <;> (try simp only [decide_eq_true_eq, decide_eq_false_iff_not, beq_iff_eq, beq_eq_false_iff_ne, bne_iff_ne, bne_eq_false_iff_eq, ne_eq, Decidable.not_not, Bool.and_eq_true, Bool.and_eq_false_iff, Bool.or_eq_true, Bool.or_eq_false_iff, Int.ofNat_lt, Int.ofNat_le, Bool.not_eq_eq_eq_not, Bool.not_true, Bool.not_false] at h2) <;> try simp (disch := omega) only [go_sem, Nat.reduceEqDiff, Nat.reduceAdd, Nat.reduceSub, Int.reduceAdd, Int.reduceSub, Int.reduceToNat]
    · refine den_call (by (try simp (disch := omega) only [go_sem, Nat.reduceEqDiff, Nat.reduceAdd, Nat.reduceSub, Int.reduceAdd, Int.reduceSub, Int.reduceToNat]) <;> omega) (spec_l01In _ _ _) [] (by simp only [go_sem]; repeat' first | rfl | constructor) (by rfl) (run_den 400 ?_)
      simp (disch := omega) only [go_sem, Nat.reduceEqDiff, Nat.reduceAdd, Nat.reduceSub, Int.reduceAdd, Int.reduceSub, Int.reduceToNat]
      refine den_fin [] (by (try simp (disch := omega) only [go_sem, Nat.reduceEqDiff, Nat.reduceAdd, Nat.reduceSub, Int.reduceAdd, Int.reduceSub, Int.reduceToNat]) <;> omega) _ (by simp only [go_sem]; rfl) (by rfl) (by rfl) ?_
      simp (disch := omega) only [go_sem, Nat.reduceEqDiff, Nat.reduceAdd, Nat.reduceSub, Int.reduceAdd, Int.reduceSub, Int.reduceToNat]
      simp [bucketOk, h1, h2]
    · refine den_fin [] (by (try simp (disch := omega) only [go_sem, Nat.reduceEqDiff, Nat.reduceAdd, Nat.reduceSub, Int.reduceAdd, Int.reduceSub, Int.reduceToNat]) <;> omega) _ (by simp only [go_sem]; rfl) (by rfl) (by rfl) ?_
      simp (disch := omega) only [go_sem, Nat.reduceEqDiff, Nat.reduceAdd, Nat.reduceSub, Int.reduceAdd, Int.reduceSub, Int.reduceToNat]
      simp [bucketOk, h1, h2]
  · refine den_fin [] (by (try simp (disch := omega) only [go_sem, Nat.reduceEqDiff, Nat.reduceAdd, Nat.reduceSub, Int.reduceAdd, Int.reduceSub, Int.reduceToNat]) <;> omega) _ (by simp only [go_sem]; rfl) (by rfl) (by rfl) ?_
    simp (disch := omega) only [go_sem, Nat.reduceEqDiff, Nat.reduceAdd, Nat.reduceSub, Int.reduceAdd, Int.reduceSub, Int.reduceToNat]
    simp [bucketOk, h1]
end
section
open Go.RowKit
set_option linter.unusedVariables false
set_option linter.unusedSimpArgs false
set_option maxRecDepth 20000

theorem upto_snoc {p : Nat → Bool} {k : Nat} (h : ∀ j, j < k → p j = true) (hk : p k = true) : ∀ j, j < k + 1 → p j = true := by
  intro j hj
  rcases (by omega : j < k ∨ j = k) with h1 | rfl
  · exact h j h1
  · exact hk
theorem any_take_step {α : Type} {p : α → Bool} {l : List α} {i k : Nat} (h : i < k) (hk : k ≤ l.length) : (((l.take k).drop i).all p) = (p (l[i]'(by omega)) && ((l.take k).drop (i + 1)).all p) := by
  have hl : i < (l.take k).length := by simp; omega
  rw [all_step hl, List.getElem_take]
set_option maxHeartbeats 4000000 in
theorem impl_AddrsOk (l : List AddrD) (hl : l.length ≤ 1048576) : CallA Try.prog 214 [.sc (.sl 0 0 l.length)] [some ⟨l.map AddrD.cs, 4, 167, false, true⟩] (.sc (.bo (addrsOk l))) [some ⟨l.map AddrD.cs, 4, 167, false, true⟩] := by
  refine callA_of Try.func214 (by kernel_rfl) rfl fun E hE => run_den 400 ?_
  simp (disch := omega) only [Try.ntmps214, Try.results214, go_sem, Nat.reduceEqDiff, Nat.reduceAdd, Nat.reduceSub, Int.reduceAdd, Int.reduceSub, Int.reduceToNat]
  split <;> rename_i g1 <;> (try simp only [beq_true, beq_false, Bool.not_eq_true', Bool.not_eq_false'] at g1) <;> simp (disch := omega) only [go_sem, Nat.reduceEqDiff, Nat.reduceAdd, Nat.reduceSub, Int.reduceAdd, Int.reduceSub, Int.reduceToNat, g1] <;> (try simp only [decide_eq_true_eq, decide_eq_false_iff_not, beq_iff_eq, beq_eq_false_iff_ne, bne_iff_ne, bne_eq_false_iff_eq, ne_eq, Decidable.not_not, Bool.and_eq_true, Bool.and_eq_false_iff, Bool.or_eq_true, Bool.or_eq_false_iff, Int.ofNat_lt, Int.ofNat_le, Bool.not_eq_eq_eq_not, Bool.not_true, Bool.not_false] at g1) <;> try simp (disch := omega) only [go_sem, Nat.reduceEqDiff, Nat.reduceAdd, Nat.reduceSub, Int.reduceAdd, Int.reduceSub, Int.reduceToNat]
  · have hr : addrsOk l = false := by simp [addrsOk]; omega
    rw [hr]
    refine den_fin [some (0, none)] (by (try simp (disch := omega) only [go_sem, Nat.reduceEqDiff, Nat.reduceAdd, Nat.reduceSub, Int.reduceAdd, Int.reduceSub, Int.reduceToNat]) <;> omega) _ (by simp only [go_sem]; rfl) (by rfl) (by rfl) ?_
    simp (disch := omega) only [go_sem, Nat.reduceEqDiff, Nat.reduceAdd, Nat.reduceSub, Int.reduceAdd, Int.reduceSub, Int.reduceToNat]
  · have hr : addrsOk l = upto (adOk l) l.length := by simp [addrsOk]; omega
    rw [hr]
    try simp (disch := omega) only [go_sem, Nat.reduceEqDiff, Nat.reduceAdd, Nat.reduceSub, Int.reduceAdd, Int.reduceSub, Int.reduceToNat]
    refine den_lp 1 hE (fun s (k : Nat) => s.at [2, 3, 4, 6, 7, 8, 9, 13, 14, 15, 16, 17, 18, 19, 20, 21, 22, 23, 24, 25, 26, 27, 28, 29, 30, 31, 32, 33, 34, 35, 36, 37, 38, 39, 40, 41, 42, 43, 44, 45, 46, 47, 48, 49, 50, 51, 52, 53, 54, 55, 56] [(12, .sc (.int .i64 (k : Nat)))] (s.hp)) (fun (k : Nat) => k ≤ l.length ∧ ∀ j, j < k → adOk l j = true) (fun (k : Nat) => l.length - k) 0 [some (0, none)] (by (try simp (disch := omega) only [go_sem, Nat.reduceEqDiff, Nat.reduceAdd, Nat.reduceSub, Int.reduceAdd, Int.reduceSub, Int.reduceToNat]) <;> omega) (⟨Nat.zero_le _, fun j hj => absurd hj (Nat.not_lt_zero _)⟩) (weak_mk (by rfl) (by rfl) ?_) fun k hk N hN => ?_
    · try simp (disch := omega) only [go_sem, Nat.reduceEqDiff, Nat.reduceAdd, Nat.reduceSub, Int.reduceAdd, Int.reduceSub, Int.reduceToNat]
    · obtain ⟨hk1, hk2⟩ := hk
      refine run_den 400 ?_
      try simp (disch := omega) only [go_sem, Nat.reduceEqDiff, Nat.reduceAdd, Nat.reduceSub, Int.reduceAdd, Int.reduceSub, Int.reduceToNat]
      split <;> rename_i h <;> (try simp only [beq_true, beq_false, Bool.not_eq_true', Bool.not_eq_false'] at h) <;> simp (disch := omega) only [go_sem, Nat.reduceEqDiff, Nat.reduceAdd, Nat.reduceSub, Int.reduceAdd, Int.reduceSub, Int.reduceToNat, h] <;> (try simp only [decide_eq_true_eq, decide_eq_false_iff_not, beq_iff_eq, beq_eq_false_iff_ne, bne_iff_ne, bne_eq_false_iff_eq, ne_eq, Decidable.not_not, Bool.and_eq_true, Bool.and_eq_false_iff, Bool.or_eq_true, Bool.or_eq_false_iff, Int.ofNat_lt, Int.ofNat_le, Bool.not_eq_eq_eq_not, Bool.not_true, Bool.not_false] at h) <;> try simp (disch := omega) only [go_sem, Nat.reduceEqDiff, Nat.reduceAdd, Nat.reduceSub, Int.reduceAdd, Int.reduceSub, Int.reduceToNat]
      · have hA := adA_eq h
        obtain ⟨a, ha⟩ : ∃ a, a = l[k] := ⟨_, rfl⟩
        try simp (disch := omega) only [go_sem, Nat.reduceEqDiff, Nat.reduceAdd, Nat.reduceSub, Int.reduceAdd, Int.reduceSub, Int.reduceToNat]
        refine den_draw1 [0, 1, 2, 3, 4, 5, 6, 7, 8, 9, 10, 11, 12, 13, 14, 15, 16, 17, 18, 19, 20, 21, 22, 23, 24] (by kernel_rfl) (by (try simp (disch := omega) only [go_sem, Nat.reduceEqDiff, Nat.reduceAdd, Nat.reduceSub, Int.reduceAdd, Int.reduceSub, Int.reduceToNat]) <;> omega) (by kernel_rfl) (runD_den 400 ?_)
        simp (disch := omega) only [go_sem, Nat.reduceEqDiff, Nat.reduceAdd, Nat.reduceSub, Int.reduceAdd, Int.reduceSub, Int.reduceToNat]
        refine den_callD (by (try simp (disch := omega) only [go_sem, Nat.reduceEqDiff, Nat.reduceAdd, Nat.reduceSub, Int.reduceAdd, Int.reduceSub, Int.reduceToNat]) <;> omega) (impl_within _ _ _) [] (by simp only [go_sem]; repeat' first | rfl | constructor) (by rfl) (by rfl) (runD_den 400 ?_)
        simp (disch := omega) only [go_sem, Nat.reduceEqDiff, Nat.reduceAdd, Nat.reduceSub, Int.reduceAdd, Int.reduceSub, Int.reduceToNat]
        split <;> rename_i h2 <;> (try simp only [beq_true, beq_false, Bool.not_eq_true', Bool.not_eq_false'] at h2) <;> simp (disch := omega) only [go_sem, Nat.reduceEqDiff, Nat.reduceAdd, Nat.reduceSub, Int.reduceAdd, Int.reduceSub, Int.reduceToNat, h2] <;> (try simp only [decide_eq_true_eq, decide_eq_false_iff_not, beq_iff_eq, beq_eq_false_iff_ne, bne_iff_ne, bne_eq_false_iff_eq, ne_eq, Decidable.not_not, Bool.and_eq_true, Bool.and_eq_false_iff, Bool.or_eq_true, Bool.or_eq_false_iff, Int.ofNat_lt, Int.ofNat_le, Bool.not_eq_eq_eq_not, Bool.not_true, Bool.not_false] at h2) <;> try simp (disch := omega) only [go_sem, Nat.reduceEqDiff, Nat.reduceAdd, Nat.reduceSub, Int.reduceAdd, Int.reduceSub, Int.reduceToNat]
        · refine den_callD (by (try simp (disch := omega) only [go_sem, Nat.reduceEqDiff, Nat.reduceAdd, Nat.reduceSub, Int.reduceAdd, Int.reduceSub, Int.reduceToNat]) <;> omega) (impl_within _ _ _) [] (by simp only [go_sem]; repeat' first | rfl | constructor) (by rfl) (by rfl) (runD_den 400 ?_)
          simp (disch := omega) only [go_sem, Nat.reduceEqDiff, Nat.reduceAdd, Nat.reduceSub, Int.reduceAdd, Int.reduceSub, Int.reduceToNat]
          split <;> rename_i h3 <;> (try simp only [beq_true, beq_false, Bool.not_eq_true', Bool.not_eq_false'] at h3) <;> simp (disch := omega) only [go_sem, Nat.reduceEqDiff, Nat.reduceAdd, Nat.reduceSub, Int.reduceAdd, Int.reduceSub, Int.reduceToNat, h3] <;> (try simp only [decide_eq_true_eq, decide_eq_false_iff_not, beq_iff_eq, beq_eq_false_iff_ne, bne_iff_ne, bne_eq_false_iff_eq, ne_eq, Decidable.not_not, Bool.and_eq_true, Bool.and_eq_false_iff, Bool.or_eq_true, Bool.or_eq_false_iff, Int.ofNat_lt, Int.ofNat_le, Bool.not_eq_eq_eq_not, Bool.not_true, Bool.not_false] at h3) <;> try simp (disch := omega) only [go_sem, Nat.reduceEqDiff, Nat.reduceAdd, Nat.reduceSub, Int.reduceAdd, Int.reduceSub, Int.reduceToNat]
          · by_cases h0 : k = 0
            · subst h0
              try simp (disch := omega) only [go_sem, Nat.reduceEqDiff, Nat.reduceAdd, Nat.reduceSub, Int.reduceAdd, Int.reduceSub, Int.reduceToNat]
              refine ⟨by (try simp (disch := omega) only [go_sem, Nat.reduceEqDiff, Nat.reduceAdd, Nat.reduceSub, Int.reduceAdd, Int.reduceSub, Int.reduceToNat]) <;> omega, run_den 400 ?_⟩
              try simp (disch := omega) only [go_sem, Nat.reduceEqDiff, Nat.reduceAdd, Nat.reduceSub, Int.reduceAdd, Int.reduceSub, Int.reduceToNat]
              refine den_lp 1 hE (fun s (i : Nat) => s.at [2, 6, 7, 8, 9, 14, 15, 16, 17, 18, 19, 20, 21, 22, 23, 24, 25, 26, 27, 28, 29, 30, 31, 32, 33, 34, 35, 36, 37, 38, 39, 40, 42, 43, 47, 48, 49, 50, 51, 52, 53, 54, 55, 56] [(46, .sc (.int .i64 (i : Nat)))] (s.hp)) (fun (i : Nat) => i ≤ 0) (fun (i : Nat) => 0 - i) 0 [some (0, none), some (1, none)] (by (try simp (disch := omega) only [go_sem, Nat.reduceEqDiff, Nat.reduceAdd, Nat.reduceSub, Int.reduceAdd, Int.reduceSub, Int.reduceToNat]) <;> omega) (Nat.zero_le _) (weak_mk (by rfl) (by rfl) ?_) fun i hi N2 hN2 => ?_
              · try simp (disch := omega) only [go_sem, Nat.reduceEqDiff, Nat.reduceAdd, Nat.reduceSub, Int.reduceAdd, Int.reduceSub, Int.reduceToNat]
              · refine run_den 400 ?_
                have e : i = 0 := by omega
                subst e
                try simp (disch := omega) only [go_sem, Nat.reduceEqDiff, Nat.reduceAdd, Nat.reduceSub, Int.reduceAdd, Int.reduceSub, Int.reduceToNat]
                have hg : adOk l 0 = true := by
                  rw [adOk, hA]
                  simp [h2, h3]
                refine ⟨by (try simp (disch := omega) only [go_sem, Nat.reduceEqDiff, Nat.reduceAdd, Nat.reduceSub, Int.reduceAdd, Int.reduceSub, Int.reduceToNat]) <;> omega, hN _ (0 + 1) [some (0, none)] (by (try dsimp only); exact ⟨by omega, upto_snoc hk2 hg⟩) (by (try dsimp only); omega) (weak_mk (by rfl) (by rfl) ?_)⟩
                try simp (disch := omega) only [go_sem, Nat.reduceEqDiff, Nat.reduceAdd, Nat.reduceSub, Int.reduceAdd, Int.reduceSub, Int.reduceToNat]
            · have hk' : k - 1 < l.length := by omega
              have hA' := adA_eq hk'
              obtain ⟨m, rfl⟩ : ∃ m, k = m + 1 := ⟨k - 1, by omega⟩
              have em : m + 1 - 1 = m := by omega
              have em2 : ((m + 1 : Nat) : Int) - 1 = (m : Int) := by omega
              have em3 : (m : Int) + 1 - 1 = (m : Int) := by omega
              have hm : m < l.length := by omega
              try simp (disch := omega) only [go_sem, Nat.reduceEqDiff, Nat.reduceAdd, Nat.reduceSub, Int.reduceAdd, Int.reduceSub, Int.reduceToNat, em2, em3, map_get hm]
              refine ⟨by (try simp (disch := omega) only [go_sem, Nat.reduceEqDiff, Nat.reduceAdd, Nat.reduceSub, Int.reduceAdd, Int.reduceSub, Int.reduceToNat, em2, em3]) <;> omega, run_den 400 ?_⟩
              try simp (disch := omega) only [go_sem, Nat.reduceEqDiff, Nat.reduceAdd, Nat.reduceSub, Int.reduceAdd, Int.reduceSub, Int.reduceToNat]
              split <;> rename_i h5 <;> (try simp only [beq_true, beq_false, Bool.not_eq_true', Bool.not_eq_false'] at h5) <;> simp (disch := omega) only [go_sem, Nat.reduceEqDiff, Nat.reduceAdd, Nat.reduceSub, Int.reduceAdd, Int.reduceSub, Int.reduceToNat, h5] <;> (try simp only [decide_eq_true_eq, decide_eq_false_iff_not, beq_iff_eq, beq_eq_false_iff_ne, bne_iff_ne, bne_eq_false_iff_eq, ne_eq, Decidable.not_not, Bool.and_eq_true, Bool.and_eq_false_iff, Bool.or_eq_true, Bool.or_eq_false_iff, Int.ofNat_lt, Int.ofNat_le, Bool.not_eq_eq_eq_not, Bool.not_true, Bool.not_false] at h5) <;> try simp (disch := omega) only [go_sem, Nat.reduceEqDiff, Nat.reduceAdd, Nat.reduceSub, Int.reduceAdd, Int.reduceSub, Int.reduceToNat]
              · have hb : adOk l (m + 1) = false := by
                  rw [adOk, hA, hA']
                  simp
                  omega
                rw [upto_false h hb]
                refine den_fin [some (0, none)] (by (try simp (disch := omega) only [go_sem, Nat.reduceEqDiff, Nat.reduceAdd, Nat.reduceSub, Int.reduceAdd, Int.reduceSub, Int.reduceToNat]) <;> omega) _ (by simp only [go_sem]; rfl) (by rfl) (by rfl) ?_
                simp (disch := omega) only [go_sem, Nat.reduceEqDiff, Nat.reduceAdd, Nat.reduceSub, Int.reduceAdd, Int.reduceSub, Int.reduceToNat]
              · have h5' : l[m].id < l[m + 1].id := by omega
                refine den_lp 1 hE (fun s (i : Nat) => s.at [2, 6, 7, 8, 9, 14, 15, 16, 17, 18, 19, 20, 21, 22, 23, 24, 25, 26, 27, 28, 29, 30, 31, 32, 33, 34, 35, 36, 37, 38, 39, 40, 42, 43, 47, 48, 49, 50, 51, 52, 53, 54, 55, 56] [(46, .sc (.int .i64 (i : Nat)))] (s.hp)) (fun (i : Nat) => i ≤ m + 1 ∧ ((l.take (m + 1)).drop i).all (fun b => !(l[m + 1].addr == b.addr)) = (l.take (m + 1)).all (fun b => !(l[m + 1].addr == b.addr))) (fun (i : Nat) => m + 1 - i) 0 [some (0, none), some (1, none)] (by (try simp (disch := omega) only [go_sem, Nat.reduceEqDiff, Nat.reduceAdd, Nat.reduceSub, Int.reduceAdd, Int.reduceSub, Int.reduceToNat]) <;> omega) (⟨Nat.zero_le _, rfl⟩) (weak_mk (by rfl) (by rfl) ?_) fun i hi N2 hN2 => ?_
                · try simp (disch := omega) only [go_sem, Nat.reduceEqDiff, Nat.reduceAdd, Nat.reduceSub, Int.reduceAdd, Int.reduceSub, Int.reduceToNat]
                · obtain ⟨hi1, hi2⟩ := hi
                  refine run_den 400 ?_
                  try simp (disch := omega) only [go_sem, Nat.reduceEqDiff, Nat.reduceAdd, Nat.reduceSub, Int.reduceAdd, Int.reduceSub, Int.reduceToNat]
                  split <;> rename_i h6 <;> (try simp only [beq_true, beq_false, Bool.not_eq_true', Bool.not_eq_false'] at h6) <;> simp (disch := omega) only [go_sem, Nat.reduceEqDiff, Nat.reduceAdd, Nat.reduceSub, Int.reduceAdd, Int.reduceSub, Int.reduceToNat, h6] <;> (try simp only [decide_eq_true_eq, decide_eq_false_iff_not, beq_iff_eq, beq_eq_false_iff_ne, bne_iff_ne, bne_eq_false_iff_eq, ne_eq, Decidable.not_not, Bool.and_eq_true, Bool.and_eq_false_iff, Bool.or_eq_true, Bool.or_eq_false_iff, Int.ofNat_lt, Int.ofNat_le, Bool.not_eq_eq_eq_not, Bool.not_true, Bool.not_false] at h6) <;> try simp (disch := omega) only [go_sem, Nat.reduceEqDiff, Nat.reduceAdd, Nat.reduceSub, Int.reduceAdd, Int.reduceSub, Int.reduceToNat]
                  · rw [any_take_step (by omega) (by omega)] at hi2
                    have hil : i < l.length := by omega
                    try simp (disch := omega) only [go_sem, Nat.reduceEqDiff, Nat.reduceAdd, Nat.reduceSub, Int.reduceAdd, Int.reduceSub, Int.reduceToNat, map_get hil]
                    split <;> rename_i h7 <;> (try simp only [beq_true, beq_false, Bool.not_eq_true', Bool.not_eq_false'] at h7) <;> simp (disch := omega) only [go_sem, Nat.reduceEqDiff, Nat.reduceAdd, Nat.reduceSub, Int.reduceAdd, Int.reduceSub, Int.reduceToNat, h7] <;> (try simp only [decide_eq_true_eq, decide_eq_false_iff_not, beq_iff_eq, beq_eq_false_iff_ne, bne_iff_ne, bne_eq_false_iff_eq, ne_eq, Decidable.not_not, Bool.and_eq_true, Bool.and_eq_false_iff, Bool.or_eq_true, Bool.or_eq_false_iff, Int.ofNat_lt, Int.ofNat_le, Bool.not_eq_eq_eq_not, Bool.not_true, Bool.not_false] at h7) <;> try simp (disch := omega) only [go_sem, Nat.reduceEqDiff, Nat.reduceAdd, Nat.reduceSub, Int.reduceAdd, Int.reduceSub, Int.reduceToNat]
                    · have hb : adOk l (m + 1) = false := by
                        rw [adOk, hA, ← hi2]
                        simp [h7]
                      rw [upto_false h hb]
                      refine den_fin [some (0, none)] (by (try simp (disch := omega) only [go_sem, Nat.reduceEqDiff, Nat.reduceAdd, Nat.reduceSub, Int.reduceAdd, Int.reduceSub, Int.reduceToNat]) <;> omega) _ (by simp only [go_sem]; rfl) (by rfl) (by rfl) ?_
                      simp (disch := omega) only [go_sem, Nat.reduceEqDiff, Nat.reduceAdd, Nat.reduceSub, Int.reduceAdd, Int.reduceSub, Int.reduceToNat]
                    · have h7' : ¬ l[m + 1].addr = l[i].addr := fun e => h7 (by first | exact e | exact e.symm)
                      rw [show (!(l[m + 1].addr == l[i].addr)) = true from by simp [h7'], Bool.true_and] at hi2
                      refine ⟨by (try simp (disch := omega) only [go_sem, Nat.reduceEqDiff, Nat.reduceAdd, Nat.reduceSub, Int.reduceAdd, Int.reduceSub, Int.reduceToNat]) <;> omega, hN2 _ (i + 1) [some (0, none), some (1, none)] (by (try dsimp only); exact ⟨by omega, hi2⟩) (by (try dsimp only); omega) (weak_mk (by rfl) (by rfl) ?_)⟩
                      try simp (disch := omega) only [go_sem, Nat.reduceEqDiff, Nat.reduceAdd, Nat.reduceSub, Int.reduceAdd, Int.reduceSub, Int.reduceToNat]
                  · rw [List.drop_eq_nil_of_le (by simp; omega), List.all_nil] at hi2
                    have hg : adOk l (m + 1) = true := by
                      rw [adOk, hA, ← hi2]
                      simp [h2, h3, adA_eq hm, h5']
                    refine ⟨by (try simp (disch := omega) only [go_sem, Nat.reduceEqDiff, Nat.reduceAdd, Nat.reduceSub, Int.reduceAdd, Int.reduceSub, Int.reduceToNat]) <;> omega, hN _ (m + 1 + 1) [some (0, none)] (by (try dsimp only); exact ⟨by omega, upto_snoc hk2 hg⟩) (by (try dsimp only); omega) (weak_mk (by rfl) (by rfl) ?_)⟩
                    try simp (disch := omega) only [go_sem, Nat.reduceEqDiff, Nat.reduceAdd, Nat.reduceSub, Int.reduceAdd, Int.reduceSub, Int.reduceToNat]
          · have hb : adOk l k = false := by simp [adOk, hA, h3]
            rw [upto_false h hb]
            refine ⟨by (try simp (disch := omega) only [go_sem, Nat.reduceEqDiff, Nat.reduceAdd, Nat.reduceSub, Int.reduceAdd, Int.reduceSub, Int.reduceToNat]) <;> omega, run_den 400 ?_⟩
            try simp (disch := omega) only [go_sem, Nat.reduceEqDiff, Nat.reduceAdd, Nat.reduceSub, Int.reduceAdd, Int.reduceSub, Int.reduceToNat]
            refine den_fin [some (0, none)] (by (try simp (disch := omega) only [go_sem, Nat.reduceEqDiff, Nat.reduceAdd, Nat.reduceSub, Int.reduceAdd, Int.reduceSub, Int.reduceToNat]) <;> omega) _ (by simp only [go_sem]; rfl) (by rfl) (by rfl) ?_
            simp (disch := omega) only [go_sem, Nat.reduceEqDiff, Nat.reduceAdd, Nat.reduceSub, Int.reduceAdd, Int.reduceSub, Int.reduceToNat]
        · have hb : adOk l k = false := by simp [adOk, hA, h2]
          rw [upto_false h hb]
          refine ⟨by (try simp (disch := omega) only [go_sem, Nat.reduceEqDiff, Nat.reduceAdd, Nat.reduceSub, Int.reduceAdd, Int.reduceSub, Int.reduceToNat]) <;> omega, run_den 400 ?_⟩
          try simp (disch := omega) only [go_sem, Nat.reduceEqDiff, Nat.reduceAdd, Nat.reduceSub, Int.reduceAdd, Int.reduceSub, Int.reduceToNat]
          refine den_fin [some (0, none)] (by (try simp (disch := omega) only [go_sem, Nat.reduceEqDiff, Nat.reduceAdd, Nat.reduceSub, Int.reduceAdd, Int.reduceSub, Int.reduceToNat]) <;> omega) _ (by simp only [go_sem]; rfl) (by rfl) (by rfl) ?_
          simp (disch := omega) only [go_sem, Nat.reduceEqDiff, Nat.reduceAdd, Nat.reduceSub, Int.reduceAdd, Int.reduceSub, Int.reduceToNat]
      · have e : k = l.length := by omega
        subst e
        rw [upto_true hk2]
        refine den_fin [some (0, none)] (by (try simp (disch := omega) only [go_sem, Nat.reduceEqDiff, Nat.reduceAdd, Nat.reduceSub, Int.reduceAdd, Int.reduceSub, Int.reduceToNat]) <;> omega) _ (by simp only [go_sem]; rfl) (by rfl) (by rfl) ?_
        simp (disch := omega) only [go_sem, Nat.reduceEqDiff, Nat.reduceAdd, Nat.reduceSub, Int.reduceAdd, Int.reduceSub, Int.reduceToNat]
set_option maxHeartbeats 4000000 in
theorem spec_AddrsOk (l : List AddrD) (hl : l.length ≤ 1048576) : CallA Try.prog 206 [.sc (.sl 0 0 l.length)] [some ⟨l.map AddrD.cs, 4, 167, false, true⟩] (.sc (.bo (addrsOk l))) [some ⟨l.map AddrD.cs, 4, 167, false, true⟩] := by
  refine callA_of Try.func206 (by kernel_rfl) rfl fun E hE => run_den 400 ?_
  simp (disch := omega) only [Try.ntmps206, Try.results206, go_sem, Nat.reduceEqDiff, Nat.reduceAdd, Nat.reduceSub, Int.reduceAdd, Int.reduceSub, Int.reduceToNat]
  split <;> rename_i g1 <;> (try simp only [beq_true, beq_false, Bool.not_eq_true', Bool.not_eq_false'] at g1) <;> simp (disch := omega) only [go_sem, Nat.reduceEqDiff, Nat.reduceAdd, Nat.reduceSub, Int.reduceAdd, Int.reduceSub, Int.reduceToNat, g1] <;> (try simp only [decide_eq_true_eq, decide_eq_false_iff_not, beq_iff_eq, beq_eq_false_iff_ne, bne_iff_ne, bne_eq_false_iff_eq, ne_eq, Decidable.not_not, Bool.and_eq_true, Bool.and_eq_false_iff, Bool.or_eq_true, Bool.or_eq_false_iff, Int.ofNat_lt, Int.ofNat_le, Bool.not_eq_eq_eq_not, Bool.not_true, Bool.not_false] at g1) <;> try simp (disch := omega) only [go_sem, Nat.reduceEqDiff, Nat.reduceAdd, Nat.reduceSub, Int.reduceAdd, Int.reduceSub, Int.reduceToNat]
  · have hr : addrsOk l = false := by simp [addrsOk]; omega
    rw [hr]
    refine den_fin [some (0, none)] (by (try simp (disch := omega) only [go_sem, Nat.reduceEqDiff, Nat.reduceAdd, Nat.reduceSub, Int.reduceAdd, Int.reduceSub, Int.reduceToNat]) <;> omega) _ (by simp only [go_sem]; rfl) (by rfl) (by rfl) ?_
    simp (disch := omega) only [go_sem, Nat.reduceEqDiff, Nat.reduceAdd, Nat.reduceSub, Int.reduceAdd, Int.reduceSub, Int.reduceToNat]
  · have hr : addrsOk l = upto (adOk l) l.length := by simp [addrsOk]; omega
    rw [hr]
    try simp (disch := omega) only [go_sem, Nat.reduceEqDiff, Nat.reduceAdd, Nat.reduceSub, Int.reduceAdd, Int.reduceSub, Int.reduceToNat]
    refine den_lp 1 hE (fun s (k : Nat) => s.at [2, 4, 5, 6, 7, 8, 9, 10, 11, 12, 13, 14, 15, 16, 17, 18, 19, 20, 21, 22, 23, 24, 25, 26, 27, 28, 29, 30, 31, 32, 33, 34, 35, 36, 37, 38, 39, 40, 41, 42, 43, 44, 45, 46, 47, 48, 49, 50, 51, 52, 53, 54, 55, 56] [(3, .sc (.int .i64 (k : Nat)))] (s.hp)) (fun (k : Nat) => k ≤ l.length ∧ ∀ j, j < k → adOk l j = true) (fun (k : Nat) => l.length - k) 0 [some (0, none)] (by (try simp (disch := omega) only [go_sem, Nat.reduceEqDiff, Nat.reduceAdd, Nat.reduceSub, Int.reduceAdd, Int.reduceSub, Int.reduceToNat]) <;> omega) (⟨Nat.zero_le _, fun j hj => absurd hj (Nat.not_lt_zero _)⟩) (weak_mk (by rfl) (by rfl) ?_) fun k hk N hN => ?_
    · try simp (disch := omega) only [go_sem, Nat.reduceEqDiff, Nat.reduceAdd, Nat.reduceSub, Int.reduceAdd, Int.reduceSub, Int.reduceToNat]
    · obtain ⟨hk1, hk2⟩ := hk
      refine run_den 400 ?_
      try simp (disch := omega) only [go_sem, Nat.reduceEqDiff, Nat.reduceAdd, Nat.reduceSub, Int.reduceAdd, Int.reduceSub, Int.reduceToNat]
      split <;> rename_i h <;> (try simp only [beq_true, beq_false, Bool.not_eq_true', Bool.not_eq_false'] at h) <;> simp (disch := omega) only [go_sem, Nat.reduceEqDiff, Nat.reduceAdd, Nat.reduceSub, Int.reduceAdd, Int.reduceSub, Int.reduceToNat, h] <;> (try simp only [decide_eq_true_eq, decide_eq_false_iff_not, beq_iff_eq, beq_eq_false_iff_ne, bne_iff_ne, bne_eq_false_iff_eq, ne_eq, Decidable.not_not, Bool.and_eq_true, Bool.and_eq_false_iff, Bool.or_eq_true, Bool.or_eq_false_iff, Int.ofNat_lt, Int.ofNat_le, Bool.not_eq_eq_eq_not, Bool.not_true, Bool.not_false] at h) <;> try simp (disch := omega) only [go_sem, Nat.reduceEqDiff, Nat.reduceAdd, Nat.reduceSub, Int.reduceAdd, Int.reduceSub, Int.reduceToNat]
      · have hA := adA_eq h
        obtain ⟨a, ha⟩ : ∃ a, a = l[k] := ⟨_, rfl⟩
        try simp (disch := omega) only [go_sem, Nat.reduceEqDiff, Nat.reduceAdd, Nat.reduceSub, Int.reduceAdd, Int.reduceSub, Int.reduceToNat]
        refine den_draw1 [0, 1, 2, 3, 4, 5, 6, 7, 8, 9, 10, 11, 12, 13, 14, 15, 16, 17, 18, 19, 20, 21, 22, 23, 24] (by kernel_rfl) (by (try simp (disch := omega) only [go_sem, Nat.reduceEqDiff, Nat.reduceAdd, Nat.reduceSub, Int.reduceAdd, Int.reduceSub, Int.reduceToNat]) <;> omega) (by kernel_rfl) (runD_den 400 ?_)
        simp (disch := omega) only [go_sem, Nat.reduceEqDiff, Nat.reduceAdd, Nat.reduceSub, Int.reduceAdd, Int.reduceSub, Int.reduceToNat]
        refine den_callD (by (try simp (disch := omega) only [go_sem, Nat.reduceEqDiff, Nat.reduceAdd, Nat.reduceSub, Int.reduceAdd, Int.reduceSub, Int.reduceToNat]) <;> omega) (spec_l01In _ _ _) [] (by simp only [go_sem]; repeat' first | rfl | constructor) (by rfl) (by rfl) (runD_den 400 ?_)
        simp (disch := omega) only [go_sem, Nat.reduceEqDiff, Nat.reduceAdd, Nat.reduceSub, Int.reduceAdd, Int.reduceSub, Int.reduceToNat]
        split <;> rename_i h2 <;> (try simp only [beq_true, beq_false, Bool.not_eq_true', Bool.not_eq_false'] at h2) <;> simp (disch := omega) only [go_sem, Nat.reduceEqDiff, Nat.reduceAdd, Nat.reduceSub, Int.reduceAdd, Int.reduceSub, Int.reduceToNat, h2] <;> (try simp only [decide_eq_true_eq, decide_eq_false_iff_not, beq_iff_eq, beq_eq_false_iff_ne, bne_iff_ne, bne_eq_false_iff_eq, ne_eq, Decidable.not_not, Bool.and_eq_true, Bool.and_eq_false_iff, Bool.or_eq_true, Bool.or_eq_false_iff, Int.ofNat_lt, Int.ofNat_le, Bool.not_eq_eq_eq_not, Bool.not_true, Bool.not_false] at h2) <;> try simp (disch := omega) only [go_sem, Nat.reduceEqDiff, Nat.reduceAdd, Nat.reduceSub, Int.reduceAdd, Int.reduceSub, Int.reduceToNat]
        · refine den_callD (by (try simp (disch := omega) only [go_sem, Nat.reduceEqDiff, Nat.reduceAdd, Nat.reduceSub, Int.reduceAdd, Int.reduceSub, Int.reduceToNat]) <;> omega) (spec_l01In _ _ _) [] (by simp only [go_sem]; repeat' first | rfl | constructor) (by rfl) (by rfl) (runD_den 400 ?_)
          simp (disch := omega) only [go_sem, Nat.reduceEqDiff, Nat.reduceAdd, Nat.reduceSub, Int.reduceAdd, Int.reduceSub, Int.reduceToNat]
          split <;> rename_i h3 <;> (try simp only [beq_true, beq_false, Bool.not_eq_true', Bool.not_eq_false'] at h3) <;> simp (disch := omega) only [go_sem, Nat.reduceEqDiff, Nat.reduceAdd, Nat.reduceSub, Int.reduceAdd, Int.reduceSub, Int.reduceToNat, h3] <;> (try simp only [decide_eq_true_eq, decide_eq_false_iff_not, beq_iff_eq, beq_eq_false_iff_ne, bne_iff_ne, bne_eq_false_iff_eq, ne_eq, Decidable.not_not, Bool.and_eq_true, Bool.and_eq_false_iff, Bool.or_eq_true, Bool.or_eq_false_iff, Int.ofNat_lt, Int.ofNat_le, Bool.not_eq_eq_eq_not, Bool.not_true, Bool.not_false] at h3) <;> try simp (disch := omega) only [go_sem, Nat.reduceEqDiff, Nat.reduceAdd, Nat.reduceSub, Int.reduceAdd, Int.reduceSub, Int.reduceToNat]
          · by_cases h0 : k = 0
            · subst h0
              try simp (disch := omega) only [go_sem, Nat.reduceEqDiff, Nat.reduceAdd, Nat.reduceSub, Int.reduceAdd, Int.reduceSub, Int.reduceToNat]
              refine ⟨by (try simp (disch := omega) only [go_sem, Nat.reduceEqDiff, Nat.reduceAdd, Nat.reduceSub, Int.reduceAdd, Int.reduceSub, Int.reduceToNat]) <;> omega, run_den 400 ?_⟩
              try simp (disch := omega) only [go_sem, Nat.reduceEqDiff, Nat.reduceAdd, Nat.reduceSub, Int.reduceAdd, Int.reduceSub, Int.reduceToNat]
              refine den_lp 1 hE (fun s (i : Nat) => s.at [2, 6, 7, 8, 9, 10, 11, 13, 14, 15, 16, 17, 18, 19, 20, 21, 22, 23, 24, 25, 26, 27, 28, 29, 30, 31, 32, 33, 34, 35, 36, 37, 38, 39, 40, 41, 42, 44, 45, 46, 47, 48, 49, 50, 51, 52, 53, 54, 55, 56] [(5, .sc (.int .i64 (i : Nat)))] (s.hp)) (fun (i : Nat) => i ≤ 0) (fun (i : Nat) => 0 - i) 0 [some (0, none), some (1, none)] (by (try simp (disch := omega) only [go_sem, Nat.reduceEqDiff, Nat.reduceAdd, Nat.reduceSub, Int.reduceAdd, Int.reduceSub, Int.reduceToNat]) <;> omega) (Nat.zero_le _) (weak_mk (by rfl) (by rfl) ?_) fun i hi N2 hN2 => ?_
              · try simp (disch := omega) only [go_sem, Nat.reduceEqDiff, Nat.reduceAdd, Nat.reduceSub, Int.reduceAdd, Int.reduceSub, Int.reduceToNat]
              · refine run_den 400 ?_
                have e : i = 0 := by omega
                subst e
                try simp (disch := omega) only [go_sem, Nat.reduceEqDiff, Nat.reduceAdd, Nat.reduceSub, Int.reduceAdd, Int.reduceSub, Int.reduceToNat]
                have hg : adOk l 0 = true := by
                  rw [adOk, hA]
                  simp [h2, h3]
                refine ⟨by (try simp (disch := omega) only [go_sem, Nat.reduceEqDiff, Nat.reduceAdd, Nat.reduceSub, Int.reduceAdd, Int.reduceSub, Int.reduceToNat]) <;> omega, hN _ (0 + 1) [some (0, none)] (by (try dsimp only); exact ⟨by omega, upto_snoc hk2 hg⟩) (by (try dsimp only); omega) (weak_mk (by rfl) (by rfl) ?_)⟩
                try simp (disch := omega) only [go_sem, Nat.reduceEqDiff, Nat.reduceAdd, Nat.reduceSub, Int.reduceAdd, Int.reduceSub, Int.reduceToNat]
            · have hk' : k - 1 < l.length := by omega
              have hA' := adA_eq hk'
              obtain ⟨m, rfl⟩ : ∃ m, k = m + 1 := ⟨k - 1, by omega⟩
              have em : m + 1 - 1 = m := by omega
              have em2 : ((m + 1 : Nat) : Int) - 1 = (m : Int) := by omega
              have em3 : (m : Int) + 1 - 1 = (m : Int) := by omega
              have hm : m < l.length := by omega
              try simp (disch := omega) only [go_sem, Nat.reduceEqDiff, Nat.reduceAdd, Nat.reduceSub, Int.reduceAdd, Int.reduceSub, Int.reduceToNat, em2, em3, map_get hm]
              refine ⟨by (try simp (disch := omega) only [go_sem, Nat.reduceEqDiff, Nat.reduceAdd, Nat.reduceSub, Int.reduceAdd, Int.reduceSub, Int.reduceToNat, em2, em3]) <;> omega, run_den 400 ?_⟩
              try simp (disch := omega) only [go_sem, Nat.reduceEqDiff, Nat.reduceAdd, Nat.reduceSub, Int.reduceAdd, Int.reduceSub, Int.reduceToNat]
              split <;> rename_i h5 <;> (try simp only [beq_true, beq_false, Bool.not_eq_true', Bool.not_eq_false'] at h5) <;> simp (disch := omega) only [go_sem, Nat.reduceEqDiff, Nat.reduceAdd, Nat.reduceSub, Int.reduceAdd, Int.reduceSub, Int.reduceToNat, h5] <;> (try simp only [decide_eq_true_eq, decide_eq_false_iff_not, beq_iff_eq, beq_eq_false_iff_ne, bne_iff_ne, bne_eq_false_iff_eq, ne_eq, Decidable.not_not, Bool.and_eq_true, Bool.and_eq_false_iff, Bool.or_eq_true, Bool.or_eq_false_iff, Int.ofNat_lt, Int.ofNat_le, Bool.not_eq_eq_eq_not, Bool.not_true, Bool.not_false] at h5) <;> try simp (disch := omega) only [go_sem, Nat.reduceEqDiff, Nat.reduceAdd, Nat.reduceSub, Int.reduceAdd, Int.reduceSub, Int.reduceToNat]
              · have hb : adOk l (m + 1) = false := by
                  rw [adOk, hA, hA']
                  simp
                  omega
                rw [upto_false h hb]
                refine den_fin [some (0, none)] (by (try simp (disch := omega) only [go_sem, Nat.reduceEqDiff, Nat.reduceAdd, Nat.reduceSub, Int.reduceAdd, Int.reduceSub, Int.reduceToNat]) <;> omega) _ (by simp only [go_sem]; rfl) (by rfl) (by rfl) ?_
                simp (disch := omega) only [go_sem, Nat.reduceEqDiff, Nat.reduceAdd, Nat.reduceSub, Int.reduceAdd, Int.reduceSub, Int.reduceToNat]
              · have h5' : l[m].id < l[m + 1].id := by omega
                refine den_lp 1 hE (fun s (i : Nat) => s.at [2, 6, 7, 8, 9, 10, 11, 13, 14, 15, 16, 17, 18, 19, 20, 21, 22, 23, 24, 25, 26, 27, 28, 29, 30, 31, 32, 33, 34, 35, 36, 37, 38, 39, 40, 41, 42, 44, 45, 46, 47, 48, 49, 50, 51, 52, 53, 54, 55, 56] [(5, .sc (.int .i64 (i : Nat)))] (s.hp)) (fun (i : Nat) => i ≤ m + 1 ∧ ((l.take (m + 1)).drop i).all (fun b => !(l[m + 1].addr == b.addr)) = (l.take (m + 1)).all (fun b => !(l[m + 1].addr == b.addr))) (fun (i : Nat) => m + 1 - i) 0 [some (0, none), some (1, none)] (by (try simp (disch := omega) only [go_sem, Nat.reduceEqDiff, Nat.reduceAdd, Nat.reduceSub, Int.reduceAdd, Int.reduceSub, Int.reduceToNat]) <;> omega) (⟨Nat.zero_le _, rfl⟩) (weak_mk (by rfl) (by rfl) ?_) fun i hi N2 hN2 => ?_
                · try simp (disch := omega) only [go_sem, Nat.reduceEqDiff, Nat.reduceAdd, Nat.reduceSub, Int.reduceAdd, Int.reduceSub, Int.reduceToNat]
                · obtain ⟨hi1, hi2⟩ := hi
                  refine run_den 400 ?_
                  try simp (disch := omega) only [go_sem, Nat.reduceEqDiff, Nat.reduceAdd, Nat.reduceSub, Int.reduceAdd, Int.reduceSub, Int.reduceToNat]
                  split <;> rename_i h6 <;> (try simp only [beq_true, beq_false, Bool.not_eq_true', Bool.not_eq_false'] at h6) <;> simp (disch := omega) only [go_sem, Nat.reduceEqDiff, Nat.reduceAdd, Nat.reduceSub, Int.reduceAdd, Int.reduceSub, Int.reduceToNat, h6] <;> (try simp only [decide_eq_true_eq, decide_eq_false_iff_not, beq_iff_eq, beq_eq_false_iff_ne, bne_iff_ne, bne_eq_false_iff_eq, ne_eq, Decidable.not_not, Bool.and_eq_true, Bool.and_eq_false_iff, Bool.or_eq_true, Bool.or_eq_false_iff, Int.ofNat_lt, Int.ofNat_le, Bool.not_eq_eq_eq_not, Bool.not_true, Bool.not_false] at h6) <;> try simp (disch := omega) only [go_sem, Nat.reduceEqDiff, Nat.reduceAdd, Nat.reduceSub, Int.reduceAdd, Int.reduceSub, Int.reduceToNat]
                  · rw [any_take_step (by omega) (by omega)] at hi2
                    have hil : i < l.length := by omega
                    try simp (disch := omega) only [go_sem, Nat.reduceEqDiff, Nat.reduceAdd, Nat.reduceSub, Int.reduceAdd, Int.reduceSub, Int.reduceToNat, map_get hil]
                    refine den_draw1 [0, 1, 2, 3, 4, 5, 6, 7] (by kernel_rfl) (by (try simp (disch := omega) only [go_sem, Nat.reduceEqDiff, Nat.reduceAdd, Nat.reduceSub, Int.reduceAdd, Int.reduceSub, Int.reduceToNat]) <;> omega) (by kernel_rfl) (runD_den 400 ?_)
                    simp (disch := omega) only [go_sem, Nat.reduceEqDiff, Nat.reduceAdd, Nat.reduceSub, Int.reduceAdd, Int.reduceSub, Int.reduceToNat]
                    refine ⟨by (try simp (disch := omega) only [go_sem, Nat.reduceEqDiff, Nat.reduceAdd, Nat.reduceSub, Int.reduceAdd, Int.reduceSub, Int.reduceToNat]) <;> omega, run_den 400 ?_⟩
                    try simp (disch := omega) only [go_sem, Nat.reduceEqDiff, Nat.reduceAdd, Nat.reduceSub, Int.reduceAdd, Int.reduceSub, Int.reduceToNat]
                    split <;> rename_i h7 <;> (try simp only [beq_true, beq_false, Bool.not_eq_true', Bool.not_eq_false'] at h7) <;> simp (disch := omega) only [go_sem, Nat.reduceEqDiff, Nat.reduceAdd, Nat.reduceSub, Int.reduceAdd, Int.reduceSub, Int.reduceToNat, h7] <;> (try simp only [decide_eq_true_eq, decide_eq_false_iff_not, beq_iff_eq, beq_eq_false_iff_ne, bne_iff_ne, bne_eq_false_iff_eq, ne_eq, Decidable.not_not, Bool.and_eq_true, Bool.and_eq_false_iff, Bool.or_eq_true, Bool.or_eq_false_iff, Int.ofNat_lt, Int.ofNat_le, Bool.not_eq_eq_eq_not, Bool.not_true, Bool.not_false] at h7) <;> try simp (disch := omega) only [go_sem, Nat.reduceEqDiff, Nat.reduceAdd, Nat.reduceSub, Int.reduceAdd, Int.reduceSub, Int.reduceToNat]
                    · have hb : adOk l (m + 1) = false := by
                        rw [adOk, hA, ← hi2]
                        simp [h7]
                      rw [upto_false h hb]
                      refine den_fin [some (0, none)] (by (try simp (disch := omega) only [go_sem, Nat.reduceEqDiff, Nat.reduceAdd, Nat.reduceSub, Int.reduceAdd, Int.reduceSub, Int.reduceToNat]) <;> omega) _ (by simp only [go_sem]; rfl) (by rfl) (by rfl) ?_
                      simp (disch := omega) only [go_sem, Nat.reduceEqDiff, Nat.reduceAdd, Nat.reduceSub, Int.reduceAdd, Int.reduceSub, Int.reduceToNat]
                    · have h7' : ¬ l[m + 1].addr = l[i].addr := fun e => h7 (by first | exact e | exact e.symm)
                      rw [show (!(l[m + 1].addr == l[i].addr)) = true from by simp [h7'], Bool.true_and] at hi2
                      refine ⟨by (try simp (disch := omega) only [go_sem, Nat.reduceEqDiff, Nat.reduceAdd, Nat.reduceSub, Int.reduceAdd, Int.reduceSub, Int.reduceToNat]) <;> omega, hN2 _ (i + 1) [some (0, none), some (1, none)] (by (try dsimp only); exact ⟨by omega, hi2⟩) (by (try dsimp only); omega) (weak_mk (by rfl) (by rfl) ?_)⟩
                      try simp (disch := omega) only [go_sem, Nat.reduceEqDiff, Nat.reduceAdd, Nat.reduceSub, Int.reduceAdd, Int.reduceSub, Int.reduceToNat]
                  · rw [List.drop_eq_nil_of_le (by simp; omega), List.all_nil] at hi2
                    have hg : adOk l (m + 1) = true := by
                      rw [adOk, hA, ← hi2]
                      simp [h2, h3, adA_eq hm, h5']
                    refine ⟨by (try simp (disch := omega) only [go_sem, Nat.reduceEqDiff, Nat.reduceAdd, Nat.reduceSub, Int.reduceAdd, Int.reduceSub, Int.reduceToNat]) <;> omega, hN _ (m + 1 + 1) [some (0, none)] (by (try dsimp only); exact ⟨by omega, upto_snoc hk2 hg⟩) (by (try dsimp only); omega) (weak_mk (by rfl) (by rfl) ?_)⟩
                    try simp (disch := omega) only [go_sem, Nat.reduceEqDiff, Nat.reduceAdd, Nat.reduceSub, Int.reduceAdd, Int.reduceSub, Int.reduceToNat]
          · have hb : adOk l k = false := by simp [adOk, hA, h3]
            rw [upto_false h hb]
            refine ⟨by (try simp (disch := omega) only [go_sem, Nat.reduceEqDiff, Nat.reduceAdd, Nat.reduceSub, Int.reduceAdd, Int.reduceSub, Int.reduceToNat]) <;> omega, run_den 400 ?_⟩
            try simp (disch := omega) only [go_sem, Nat.reduceEqDiff, Nat.reduceAdd, Nat.reduceSub, Int.reduceAdd, Int.reduceSub, Int.reduceToNat]
            refine den_fin [some (0, none)] (by (try simp (disch := omega) only [go_sem, Nat.reduceEqDiff, Nat.reduceAdd, Nat.reduceSub, Int.reduceAdd, Int.reduceSub, Int.reduceToNat]) <;> omega) _ (by simp only [go_sem]; rfl) (by rfl) (by rfl) ?_
            simp (disch := omega) only [go_sem, Nat.reduceEqDiff, Nat.reduceAdd, Nat.reduceSub, Int.reduceAdd, Int.reduceSub, Int.reduceToNat]
        · have hb : adOk l k = false := by simp [adOk, hA, h2]
          rw [upto_false h hb]
          refine ⟨by (try simp (disch := omega) only [go_sem, Nat.reduceEqDiff, Nat.reduceAdd, Nat.reduceSub, Int.reduceAdd, Int.reduceSub, Int.reduceToNat]) <;> omega, run_den 400 ?_⟩
          try simp (disch := omega) only [go_sem, Nat.reduceEqDiff, Nat.reduceAdd, Nat.reduceSub, Int.reduceAdd, Int.reduceSub, Int.reduceToNat]
          refine den_fin [some (0, none)] (by (try simp (disch := omega) only [go_sem, Nat.reduceEqDiff, Nat.reduceAdd, Nat.reduceSub, Int.reduceAdd, Int.reduceSub, Int.reduceToNat]) <;> omega) _ (by simp only [go_sem]; rfl) (by rfl) (by rfl) ?_
          simp (disch := omega) only [go_sem, Nat.reduceEqDiff, Nat.reduceAdd, Nat.reduceSub, Int.reduceAdd, Int.reduceSub, Int.reduceToNat]
      · have e : k = l.length := by omega
        subst e
        rw [upto_true hk2]
        refine den_fin [some (0, none)] (by (try simp (disch := omega) only [go_sem, Nat.reduceEqDiff, Nat.reduceAdd, Nat.reduceSub, Int.reduceAdd, Int.reduceSub, Int.reduceToNat]) <;> omega) _ (by simp only [go_sem]; rfl) (by rfl) (by rfl) ?_
        simp (disch := omega) only [go_sem, Nat.reduceEqDiff, Nat.reduceAdd, Nat.reduceSub, Int.reduceAdd, Int.reduceSub, Int.reduceToNat]
set_option maxHeartbeats 4000000 in
theorem impl_HalfsOk (l : List HalfD) (hl : l.length ≤ 1048576) : CallA Try.prog 215 [.sc (.sl 0 0 l.length)] [some ⟨l.map HalfD.cs, 8, 139, false, true⟩] (.sc (.bo (halfsOk l))) [some ⟨l.map HalfD.cs, 8, 139, false, true⟩] := by
  refine callA_of Try.func215 (by kernel_rfl) rfl fun E hE => run_den 400 ?_
  simp (disch := omega) only [Try.ntmps215, Try.results215, go_sem, Nat.reduceEqDiff, Nat.reduceAdd, Nat.reduceSub, Int.reduceAdd, Int.reduceSub, Int.reduceToNat]
  split <;> rename_i g1 <;> (try simp only [beq_true, beq_false, Bool.not_eq_true', Bool.not_eq_false'] at g1) <;> simp (disch := omega) only [go_sem, Nat.reduceEqDiff, Nat.reduceAdd, Nat.reduceSub, Int.reduceAdd, Int.reduceSub, Int.reduceToNat, g1] <;> (try simp only [decide_eq_true_eq, decide_eq_false_iff_not, beq_iff_eq, beq_eq_false_iff_ne, bne_iff_ne, bne_eq_false_iff_eq, ne_eq, Decidable.not_not, Bool.and_eq_true, Bool.and_eq_false_iff, Bool.or_eq_true, Bool.or_eq_false_iff, Int.ofNat_lt, Int.ofNat_le, Bool.not_eq_eq_eq_not, Bool.not_true, Bool.not_false] at g1) <;> try simp (disch := omega) only [go_sem, Nat.reduceEqDiff, Nat.reduceAdd, Nat.reduceSub, Int.reduceAdd, Int.reduceSub, Int.reduceToNat]
  · have hr : halfsOk l = false := by simp [halfsOk]; omega
    rw [hr]
    refine den_fin [some (0, none)] (by (try simp (disch := omega) only [go_sem, Nat.reduceEqDiff, Nat.reduceAdd, Nat.reduceSub, Int.reduceAdd, Int.reduceSub, Int.reduceToNat]) <;> omega) _ (by simp only [go_sem]; rfl) (by rfl) (by rfl) ?_
    simp (disch := omega) only [go_sem, Nat.reduceEqDiff, Nat.reduceAdd, Nat.reduceSub, Int.reduceAdd, Int.reduceSub, Int.reduceToNat]
  · have hr : halfsOk l = upto (haOk l) l.length := by simp [halfsOk]; omega
    rw [hr]
    try simp (disch := omega) only [go_sem, Nat.reduceEqDiff, Nat.reduceAdd, Nat.reduceSub, Int.reduceAdd, Int.reduceSub, Int.reduceToNat]
    refine den_lp 1 hE (fun s (k : Nat) => s.at [2, 3, 4, 5, 6, 7, 11, 12, 13, 14, 15, 16, 17, 18, 19, 20, 21, 22, 23, 24, 25, 26, 27, 28, 29, 30, 31, 32, 33, 34, 35, 36, 37, 38, 39, 40, 41, 42] [(10, .sc (.int .i64 (k : Nat)))] (s.hp)) (fun (k : Nat) => k ≤ l.length ∧ ∀ j, j < k → haOk l j = true) (fun (k : Nat) => l.length - k) 0 [some (0, none)] (by (try simp (disch := omega) only [go_sem, Nat.reduceEqDiff, Nat.reduceAdd, Nat.reduceSub, Int.reduceAdd, Int.reduceSub, Int.reduceToNat]) <;> omega) (⟨Nat.zero_le _, fun j hj => absurd hj (Nat.not_lt_zero _)⟩) (weak_mk (by rfl) (by rfl) ?_) fun k hk N hN => ?_
    · try simp (disch := omega) only [go_sem, Nat.reduceEqDiff, Nat.reduceAdd, Nat.reduceSub, Int.reduceAdd, Int.reduceSub, Int.reduceToNat]
    · obtain ⟨hk1, hk2⟩ := hk
      refine run_den 400 ?_
      try simp (disch := omega) only [go_sem, Nat.reduceEqDiff, Nat.reduceAdd, Nat.reduceSub, Int.reduceAdd, Int.reduceSub, Int.reduceToNat]
      split <;> rename_i h <;> (try simp only [beq_true, beq_false, Bool.not_eq_true', Bool.not_eq_false'] at h) <;> simp (disch := omega) only [go_sem, Nat.reduceEqDiff, Nat.reduceAdd, Nat.reduceSub, Int.reduceAdd, Int.reduceSub, Int.reduceToNat, h] <;> (try simp only [decide_eq_true_eq, decide_eq_false_iff_not, beq_iff_eq, beq_eq_false_iff_ne, bne_iff_ne, bne_eq_false_iff_eq, ne_eq, Decidable.not_not, Bool.and_eq_true, Bool.and_eq_false_iff, Bool.or_eq_true, Bool.or_eq_false_iff, Int.ofNat_lt, Int.ofNat_le, Bool.not_eq_eq_eq_not, Bool.not_true, Bool.not_false] at h) <;> try simp (disch := omega) only [go_sem, Nat.reduceEqDiff, Nat.reduceAdd, Nat.reduceSub, Int.reduceAdd, Int.reduceSub, Int.reduceToNat]
      · have hA := haA_eq h
        try simp (disch := omega) only [go_sem, Nat.reduceEqDiff, Nat.reduceAdd, Nat.reduceSub, Int.reduceAdd, Int.reduceSub, Int.reduceToNat]
        refine den_call (by (try simp (disch := omega) only [go_sem, Nat.reduceEqDiff, Nat.reduceAdd, Nat.reduceSub, Int.reduceAdd, Int.reduceSub, Int.reduceToNat]) <;> omega) (impl_HalfAt l l[k].road hl) [some (0, none)] (by simp only [go_sem]; repeat' first | rfl | constructor) (by rfl) (run_den 400 ?_)
        simp (disch := omega) only [go_sem, Nat.reduceEqDiff, Nat.reduceAdd, Nat.reduceSub, Int.reduceAdd, Int.reduceSub, Int.reduceToNat]
        split <;> rename_i h2 <;> (try simp only [beq_true, beq_false, Bool.not_eq_true', Bool.not_eq_false'] at h2) <;> simp (disch := omega) only [go_sem, Nat.reduceEqDiff, Nat.reduceAdd, Nat.reduceSub, Int.reduceAdd, Int.reduceSub, Int.reduceToNat, h2] <;> (try simp only [decide_eq_true_eq, decide_eq_false_iff_not, beq_iff_eq, beq_eq_false_iff_ne, bne_iff_ne, bne_eq_false_iff_eq, ne_eq, Decidable.not_not, Bool.and_eq_true, Bool.and_eq_false_iff, Bool.or_eq_true, Bool.or_eq_false_iff, Int.ofNat_lt, Int.ofNat_le, Bool.not_eq_eq_eq_not, Bool.not_true, Bool.not_false] at h2) <;> try simp (disch := omega) only [go_sem, Nat.reduceEqDiff, Nat.reduceAdd, Nat.reduceSub, Int.reduceAdd, Int.reduceSub, Int.reduceToNat]
        · refine den_call (by (try simp (disch := omega) only [go_sem, Nat.reduceEqDiff, Nat.reduceAdd, Nat.reduceSub, Int.reduceAdd, Int.reduceSub, Int.reduceToNat]) <;> omega) (impl_roadIsNumber l[k].road) [] (by simp only [go_sem]; repeat' first | rfl | constructor) (by rfl) (run_den 400 ?_)
          simp (disch := omega) only [go_sem, Nat.reduceEqDiff, Nat.reduceAdd, Nat.reduceSub, Int.reduceAdd, Int.reduceSub, Int.reduceToNat]
          split <;> rename_i h3 <;> (try simp only [beq_true, beq_false, Bool.not_eq_true', Bool.not_eq_false'] at h3) <;> simp (disch := omega) only [go_sem, Nat.reduceEqDiff, Nat.reduceAdd, Nat.reduceSub, Int.reduceAdd, Int.reduceSub, Int.reduceToNat, h3] <;> (try simp only [decide_eq_true_eq, decide_eq_false_iff_not, beq_iff_eq, beq_eq_false_iff_ne, bne_iff_ne, bne_eq_false_iff_eq, ne_eq, Decidable.not_not, Bool.and_eq_true, Bool.and_eq_false_iff, Bool.or_eq_true, Bool.or_eq_false_iff, Int.ofNat_lt, Int.ofNat_le, Bool.not_eq_eq_eq_not, Bool.not_true, Bool.not_false] at h3) <;> try simp (disch := omega) only [go_sem, Nat.reduceEqDiff, Nat.reduceAdd, Nat.reduceSub, Int.reduceAdd, Int.reduceSub, Int.reduceToNat]
          · refine den_call (by (try simp (disch := omega) only [go_sem, Nat.reduceEqDiff, Nat.reduceAdd, Nat.reduceSub, Int.reduceAdd, Int.reduceSub, Int.reduceToNat]) <;> omega) (impl_isNumber [l[k].theirs, l[k].mine, l[k].give, l[k].take, l[k].till] (by simp)) [some (2, none)] (by simp only [go_sem]; repeat' first | rfl | constructor) (by rfl) (run_den 400 ?_)
            simp (disch := omega) only [go_sem, Nat.reduceEqDiff, Nat.reduceAdd, Nat.reduceSub, Int.reduceAdd, Int.reduceSub, Int.reduceToNat]
            generalize hq : [l[k].theirs, l[k].mine, l[k].give, l[k].take, l[k].till].all isN = q
            split <;> rename_i h4 <;> (try simp only [beq_true, beq_false, Bool.not_eq_true', Bool.not_eq_false'] at h4) <;> simp (disch := omega) only [go_sem, Nat.reduceEqDiff, Nat.reduceAdd, Nat.reduceSub, Int.reduceAdd, Int.reduceSub, Int.reduceToNat, h4] <;> (try simp only [decide_eq_true_eq, decide_eq_false_iff_not, beq_iff_eq, beq_eq_false_iff_ne, bne_iff_ne, bne_eq_false_iff_eq, ne_eq, Decidable.not_not, Bool.and_eq_true, Bool.and_eq_false_iff, Bool.or_eq_true, Bool.or_eq_false_iff, Int.ofNat_lt, Int.ofNat_le, Bool.not_eq_eq_eq_not, Bool.not_true, Bool.not_false] at h4) <;> try simp (disch := omega) only [go_sem, Nat.reduceEqDiff, Nat.reduceAdd, Nat.reduceSub, Int.reduceAdd, Int.reduceSub, Int.reduceToNat]
            · have hb : haOk l k = false := by simp [haOk, hA, hq, h4]
              rw [upto_false h hb]
              refine den_fin [some (0, none)] (by (try simp (disch := omega) only [go_sem, Nat.reduceEqDiff, Nat.reduceAdd, Nat.reduceSub, Int.reduceAdd, Int.reduceSub, Int.reduceToNat]) <;> omega) _ (by simp only [go_sem]; rfl) (by rfl) (by rfl) ?_
              simp (disch := omega) only [go_sem, Nat.reduceEqDiff, Nat.reduceAdd, Nat.reduceSub, Int.reduceAdd, Int.reduceSub, Int.reduceToNat]
            · have hg : haOk l k = true := by simp [haOk, hA, hq, h4, h2, h3]
              refine ⟨by (try simp (disch := omega) only [go_sem, Nat.reduceEqDiff, Nat.reduceAdd, Nat.reduceSub, Int.reduceAdd, Int.reduceSub, Int.reduceToNat]) <;> omega, hN _ (k + 1) [some (0, none)] (by (try dsimp only); exact ⟨by omega, upto_snoc hk2 hg⟩) (by (try dsimp only); omega) (weak_mk (by rfl) (by rfl) ?_)⟩
              try simp (disch := omega) only [go_sem, Nat.reduceEqDiff, Nat.reduceAdd, Nat.reduceSub, Int.reduceAdd, Int.reduceSub, Int.reduceToNat]
          · have hb : haOk l k = false := by simp [haOk, hA, h3]
            rw [upto_false h hb]
            refine den_fin [some (0, none)] (by (try simp (disch := omega) only [go_sem, Nat.reduceEqDiff, Nat.reduceAdd, Nat.reduceSub, Int.reduceAdd, Int.reduceSub, Int.reduceToNat]) <;> omega) _ (by simp only [go_sem]; rfl) (by rfl) (by rfl) ?_
            simp (disch := omega) only [go_sem, Nat.reduceEqDiff, Nat.reduceAdd, Nat.reduceSub, Int.reduceAdd, Int.reduceSub, Int.reduceToNat]
        · have hb : haOk l k = false := by simp [haOk, hA, h2]
          rw [upto_false h hb]
          refine den_fin [some (0, none)] (by (try simp (disch := omega) only [go_sem, Nat.reduceEqDiff, Nat.reduceAdd, Nat.reduceSub, Int.reduceAdd, Int.reduceSub, Int.reduceToNat]) <;> omega) _ (by simp only [go_sem]; rfl) (by rfl) (by rfl) ?_
          simp (disch := omega) only [go_sem, Nat.reduceEqDiff, Nat.reduceAdd, Nat.reduceSub, Int.reduceAdd, Int.reduceSub, Int.reduceToNat]
      · have e : k = l.length := by omega
        subst e
        rw [upto_true hk2]
        refine den_fin [some (0, none)] (by (try simp (disch := omega) only [go_sem, Nat.reduceEqDiff, Nat.reduceAdd, Nat.reduceSub, Int.reduceAdd, Int.reduceSub, Int.reduceToNat]) <;> omega) _ (by simp only [go_sem]; rfl) (by rfl) (by rfl) ?_
        simp (disch := omega) only [go_sem, Nat.reduceEqDiff, Nat.reduceAdd, Nat.reduceSub, Int.reduceAdd, Int.reduceSub, Int.reduceToNat]
set_option maxHeartbeats 4000000 in
theorem spec_HalfsOk (l : List HalfD) (hl : l.length ≤ 1048576) : CallA Try.prog 207 [.sc (.sl 0 0 l.length)] [some ⟨l.map HalfD.cs, 8, 139, false, true⟩] (.sc (.bo (halfsOk l))) [some ⟨l.map HalfD.cs, 8, 139, false, true⟩] := by
  refine callA_of Try.func207 (by kernel_rfl) rfl fun E hE => run_den 400 ?_
  simp (disch := omega) only [Try.ntmps207, Try.results207, go_sem, Nat.reduceEqDiff, Nat.reduceAdd, Nat.reduceSub, Int.reduceAdd, Int.reduceSub, Int.reduceToNat]
  split <;> rename_i g1 <;> (try simp only [beq_true, beq_false, Bool.not_eq_true', Bool.not_eq_false'] at g1) <;> simp (disch := omega) only [go_sem, Nat.reduceEqDiff, Nat.reduceAdd, Nat.reduceSub, Int.reduceAdd, Int.reduceSub, Int.reduceToNat, g1] <;> (try simp only [decide_eq_true_eq, decide_eq_false_iff_not, beq_iff_eq, beq_eq_false_iff_ne, bne_iff_ne, bne_eq_false_iff_eq, ne_eq, Decidable.not_not, Bool.and_eq_true, Bool.and_eq_false_iff, Bool.or_eq_true, Bool.or_eq_false_iff, Int.ofNat_lt, Int.ofNat_le, Bool.not_eq_eq_eq_not, Bool.not_true, Bool.not_false] at g1) <;> try simp (disch := omega) only [go_sem, Nat.reduceEqDiff, Nat.reduceAdd, Nat.reduceSub, Int.reduceAdd, Int.reduceSub, Int.reduceToNat]
  · have hr : halfsOk l = false := by simp [halfsOk]; omega
    rw [hr]
    refine den_fin [some (0, none)] (by (try simp (disch := omega) only [go_sem, Nat.reduceEqDiff, Nat.reduceAdd, Nat.reduceSub, Int.reduceAdd, Int.reduceSub, Int.reduceToNat]) <;> omega) _ (by simp only [go_sem]; rfl) (by rfl) (by rfl) ?_
    simp (disch := omega) only [go_sem, Nat.reduceEqDiff, Nat.reduceAdd, Nat.reduceSub, Int.reduceAdd, Int.reduceSub, Int.reduceToNat]
  · have hr : halfsOk l = upto (haOk l) l.length := by simp [halfsOk]; omega
    rw [hr]
    try simp (disch := omega) only [go_sem, Nat.reduceEqDiff, Nat.reduceAdd, Nat.reduceSub, Int.reduceAdd, Int.reduceSub, Int.reduceToNat]
    refine den_lp 1 hE (fun s (k : Nat) => s.at [2, 4, 5, 6, 7, 8, 9, 10, 11, 12, 13, 14, 15, 16, 17, 18, 19, 20, 21, 22, 23, 24, 25, 26, 27, 28, 29, 30, 31, 32, 33, 34, 35, 36, 37, 38, 39, 40, 41, 42, 43, 44, 45, 46, 47, 48, 49, 50, 51, 52, 53, 54, 55, 56, 57, 58, 59] [(3, .sc (.int .i64 (k : Nat)))] (s.hp)) (fun (k : Nat) => k ≤ l.length ∧ ∀ j, j < k → haOk l j = true) (fun (k : Nat) => l.length - k) 0 [some (0, none)] (by (try simp (disch := omega) only [go_sem, Nat.reduceEqDiff, Nat.reduceAdd, Nat.reduceSub, Int.reduceAdd, Int.reduceSub, Int.reduceToNat]) <;> omega) (⟨Nat.zero_le _, fun j hj => absurd hj (Nat.not_lt_zero _)⟩) (weak_mk (by rfl) (by rfl) ?_) fun k hk N hN => ?_
    · try simp (disch := omega) only [go_sem, Nat.reduceEqDiff, Nat.reduceAdd, Nat.reduceSub, Int.reduceAdd, Int.reduceSub, Int.reduceToNat]
    · obtain ⟨hk1, hk2⟩ := hk
      refine run_den 400 ?_
      try simp (disch := omega) only [go_sem, Nat.reduceEqDiff, Nat.reduceAdd, Nat.reduceSub, Int.reduceAdd, Int.reduceSub, Int.reduceToNat]
      split <;> rename_i h <;> (try simp only [beq_true, beq_false, Bool.not_eq_true', Bool.not_eq_false'] at h) <;> simp (disch := omega) only [go_sem, Nat.reduceEqDiff, Nat.reduceAdd, Nat.reduceSub, Int.reduceAdd, Int.reduceSub, Int.reduceToNat, h] <;> (try simp only [decide_eq_true_eq, decide_eq_false_iff_not, beq_iff_eq, beq_eq_false_iff_ne, bne_iff_ne, bne_eq_false_iff_eq, ne_eq, Decidable.not_not, Bool.and_eq_true, Bool.and_eq_false_iff, Bool.or_eq_true, Bool.or_eq_false_iff, Int.ofNat_lt, Int.ofNat_le, Bool.not_eq_eq_eq_not, Bool.not_true, Bool.not_false] at h) <;> try simp (disch := omega) only [go_sem, Nat.reduceEqDiff, Nat.reduceAdd, Nat.reduceSub, Int.reduceAdd, Int.reduceSub, Int.reduceToNat]
      · have hA := haA_eq h
        try simp (disch := omega) only [go_sem, Nat.reduceEqDiff, Nat.reduceAdd, Nat.reduceSub, Int.reduceAdd, Int.reduceSub, Int.reduceToNat]
        refine den_call (by (try simp (disch := omega) only [go_sem, Nat.reduceEqDiff, Nat.reduceAdd, Nat.reduceSub, Int.reduceAdd, Int.reduceSub, Int.reduceToNat]) <;> omega) (spec_l14Road l[k].road) [] (by simp only [go_sem]; repeat' first | rfl | constructor) (by rfl) (run_den 400 ?_)
        simp (disch := omega) only [go_sem, Nat.reduceEqDiff, Nat.reduceAdd, Nat.reduceSub, Int.reduceAdd, Int.reduceSub, Int.reduceToNat]
        split <;> rename_i h2 <;> (try simp only [beq_true, beq_false, Bool.not_eq_true', Bool.not_eq_false'] at h2) <;> simp (disch := omega) only [go_sem, Nat.reduceEqDiff, Nat.reduceAdd, Nat.reduceSub, Int.reduceAdd, Int.reduceSub, Int.reduceToNat, h2] <;> (try simp only [decide_eq_true_eq, decide_eq_false_iff_not, beq_iff_eq, beq_eq_false_iff_ne, bne_iff_ne, bne_eq_false_iff_eq, ne_eq, Decidable.not_not, Bool.and_eq_true, Bool.and_eq_false_iff, Bool.or_eq_true, Bool.or_eq_false_iff, Int.ofNat_lt, Int.ofNat_le, Bool.not_eq_eq_eq_not, Bool.not_true, Bool.not_false] at h2) <;> try simp (disch := omega) only [go_sem, Nat.reduceEqDiff, Nat.reduceAdd, Nat.reduceSub, Int.reduceAdd, Int.reduceSub, Int.reduceToNat]
        · skip
          refine den_call (by (try simp (disch := omega) only [go_sem, Nat.reduceEqDiff, Nat.reduceAdd, Nat.reduceSub, Int.reduceAdd, Int.reduceSub, Int.reduceToNat]) <;> omega) (spec_l14Num l[k].theirs) [] (by simp only [go_sem]; repeat' first | rfl | constructor) (by rfl) (run_den 400 ?_)
          simp (disch := omega) only [go_sem, Nat.reduceEqDiff, Nat.reduceAdd, Nat.reduceSub, Int.reduceAdd, Int.reduceSub, Int.reduceToNat]
          split <;> rename_i n0 <;> (try simp only [beq_true, beq_false, Bool.not_eq_true', Bool.not_eq_false'] at n0) <;> simp (disch := omega) only [go_sem, Nat.reduceEqDiff, Nat.reduceAdd, Nat.reduceSub, Int.reduceAdd, Int.reduceSub, Int.reduceToNat, n0] <;> (try simp only [decide_eq_true_eq, decide_eq_false_iff_not, beq_iff_eq, beq_eq_false_iff_ne, bne_iff_ne, bne_eq_false_iff_eq, ne_eq, Decidable.not_not, Bool.and_eq_true, Bool.and_eq_false_iff, Bool.or_eq_true, Bool.or_eq_false_iff, Int.ofNat_lt, Int.ofNat_le, Bool.not_eq_eq_eq_not, Bool.not_true, Bool.not_false] at n0) <;> try simp (disch := omega) only [go_sem, Nat.reduceEqDiff, Nat.reduceAdd, Nat.reduceSub, Int.reduceAdd, Int.reduceSub, Int.reduceToNat]
          · skip
            refine den_call (by (try simp (disch := omega) only [go_sem, Nat.reduceEqDiff, Nat.reduceAdd, Nat.reduceSub, Int.reduceAdd, Int.reduceSub, Int.reduceToNat]) <;> omega) (spec_l14Num l[k].mine) [] (by simp only [go_sem]; repeat' first | rfl | constructor) (by rfl) (run_den 400 ?_)
            simp (disch := omega) only [go_sem, Nat.reduceEqDiff, Nat.reduceAdd, Nat.reduceSub, Int.reduceAdd, Int.reduceSub, Int.reduceToNat]
            split <;> rename_i n1 <;> (try simp only [beq_true, beq_false, Bool.not_eq_true', Bool.not_eq_false'] at n1) <;> simp (disch := omega) only [go_sem, Nat.reduceEqDiff, Nat.reduceAdd, Nat.reduceSub, Int.reduceAdd, Int.reduceSub, Int.reduceToNat, n1] <;> (try simp only [decide_eq_true_eq, decide_eq_false_iff_not, beq_iff_eq, beq_eq_false_iff_ne, bne_iff_ne, bne_eq_false_iff_eq, ne_eq, Decidable.not_not, Bool.and_eq_true, Bool.and_eq_false_iff, Bool.or_eq_true, Bool.or_eq_false_iff, Int.ofNat_lt, Int.ofNat_le, Bool.not_eq_eq_eq_not, Bool.not_true, Bool.not_false] at n1) <;> try simp (disch := omega) only [go_sem, Nat.reduceEqDiff, Nat.reduceAdd, Nat.reduceSub, Int.reduceAdd, Int.reduceSub, Int.reduceToNat]
            · skip
              refine den_call (by (try simp (disch := omega) only [go_sem, Nat.reduceEqDiff, Nat.reduceAdd, Nat.reduceSub, Int.reduceAdd, Int.reduceSub, Int.reduceToNat]) <;> omega) (spec_l14Num l[k].give) [] (by simp only [go_sem]; repeat' first | rfl | constructor) (by rfl) (run_den 400 ?_)
              simp (disch := omega) only [go_sem, Nat.reduceEqDiff, Nat.reduceAdd, Nat.reduceSub, Int.reduceAdd, Int.reduceSub, Int.reduceToNat]
              split <;> rename_i n2 <;> (try simp only [beq_true, beq_false, Bool.not_eq_true', Bool.not_eq_false'] at n2) <;> simp (disch := omega) only [go_sem, Nat.reduceEqDiff, Nat.reduceAdd, Nat.reduceSub, Int.reduceAdd, Int.reduceSub, Int.reduceToNat, n2] <;> (try simp only [decide_eq_true_eq, decide_eq_false_iff_not, beq_iff_eq, beq_eq_false_iff_ne, bne_iff_ne, bne_eq_false_iff_eq, ne_eq, Decidable.not_not, Bool.and_eq_true, Bool.and_eq_false_iff, Bool.or_eq_true, Bool.or_eq_false_iff, Int.ofNat_lt, Int.ofNat_le, Bool.not_eq_eq_eq_not, Bool.not_true, Bool.not_false] at n2) <;> try simp (disch := omega) only [go_sem, Nat.reduceEqDiff, Nat.reduceAdd, Nat.reduceSub, Int.reduceAdd, Int.reduceSub, Int.reduceToNat]
              · skip
                refine den_call (by (try simp (disch := omega) only [go_sem, Nat.reduceEqDiff, Nat.reduceAdd, Nat.reduceSub, Int.reduceAdd, Int.reduceSub, Int.reduceToNat]) <;> omega) (spec_l14Num l[k].take) [] (by simp only [go_sem]; repeat' first | rfl | constructor) (by rfl) (run_den 400 ?_)
                simp (disch := omega) only [go_sem, Nat.reduceEqDiff, Nat.reduceAdd, Nat.reduceSub, Int.reduceAdd, Int.reduceSub, Int.reduceToNat]
                split <;> rename_i n3 <;> (try simp only [beq_true, beq_false, Bool.not_eq_true', Bool.not_eq_false'] at n3) <;> simp (disch := omega) only [go_sem, Nat.reduceEqDiff, Nat.reduceAdd, Nat.reduceSub, Int.reduceAdd, Int.reduceSub, Int.reduceToNat, n3] <;> (try simp only [decide_eq_true_eq, decide_eq_false_iff_not, beq_iff_eq, beq_eq_false_iff_ne, bne_iff_ne, bne_eq_false_iff_eq, ne_eq, Decidable.not_not, Bool.and_eq_true, Bool.and_eq_false_iff, Bool.or_eq_true, Bool.or_eq_false_iff, Int.ofNat_lt, Int.ofNat_le, Bool.not_eq_eq_eq_not, Bool.not_true, Bool.not_false] at n3) <;> try simp (disch := omega) only [go_sem, Nat.reduceEqDiff, Nat.reduceAdd, Nat.reduceSub, Int.reduceAdd, Int.reduceSub, Int.reduceToNat]
                · skip
                  refine den_call (by (try simp (disch := omega) only [go_sem, Nat.reduceEqDiff, Nat.reduceAdd, Nat.reduceSub, Int.reduceAdd, Int.reduceSub, Int.reduceToNat]) <;> omega) (spec_l14Num l[k].till) [] (by simp only [go_sem]; repeat' first | rfl | constructor) (by rfl) (run_den 400 ?_)
                  simp (disch := omega) only [go_sem, Nat.reduceEqDiff, Nat.reduceAdd, Nat.reduceSub, Int.reduceAdd, Int.reduceSub, Int.reduceToNat]
                  split <;> rename_i n4 <;> (try simp only [beq_true, beq_false, Bool.not_eq_true', Bool.not_eq_false'] at n4) <;> simp (disch := omega) only [go_sem, Nat.reduceEqDiff, Nat.reduceAdd, Nat.reduceSub, Int.reduceAdd, Int.reduceSub, Int.reduceToNat, n4] <;> (try simp only [decide_eq_true_eq, decide_eq_false_iff_not, beq_iff_eq, beq_eq_false_iff_ne, bne_iff_ne, bne_eq_false_iff_eq, ne_eq, Decidable.not_not, Bool.and_eq_true, Bool.and_eq_false_iff, Bool.or_eq_true, Bool.or_eq_false_iff, Int.ofNat_lt, Int.ofNat_le, Bool.not_eq_eq_eq_not, Bool.not_true, Bool.not_false] at n4) <;> try simp (disch := omega) only [go_sem, Nat.reduceEqDiff, Nat.reduceAdd, Nat.reduceSub, Int.reduceAdd, Int.reduceSub, Int.reduceToNat]
                  · skip
                    refine den_call (by (try simp (disch := omega) only [go_sem, Nat.reduceEqDiff, Nat.reduceAdd, Nat.reduceSub, Int.reduceAdd, Int.reduceSub, Int.reduceToNat]) <;> omega) (spec_HalfAt l l[k].road hl) [some (0, none)] (by simp only [go_sem]; repeat' first | rfl | constructor) (by rfl) (run_den 400 ?_)
                    simp (disch := omega) only [go_sem, Nat.reduceEqDiff, Nat.reduceAdd, Nat.reduceSub, Int.reduceAdd, Int.reduceSub, Int.reduceToNat]
                    split <;> rename_i h4 <;> (try simp only [beq_true, beq_false, Bool.not_eq_true', Bool.not_eq_false'] at h4) <;> simp (disch := omega) only [go_sem, Nat.reduceEqDiff, Nat.reduceAdd, Nat.reduceSub, Int.reduceAdd, Int.reduceSub, Int.reduceToNat, h4] <;> (try simp only [decide_eq_true_eq, decide_eq_false_iff_not, beq_iff_eq, beq_eq_false_iff_ne, bne_iff_ne, bne_eq_false_iff_eq, ne_eq, Decidable.not_not, Bool.and_eq_true, Bool.and_eq_false_iff, Bool.or_eq_true, Bool.or_eq_false_iff, Int.ofNat_lt, Int.ofNat_le, Bool.not_eq_eq_eq_not, Bool.not_true, Bool.not_false] at h4) <;> try simp (disch := omega) only [go_sem, Nat.reduceEqDiff, Nat.reduceAdd, Nat.reduceSub, Int.reduceAdd, Int.reduceSub, Int.reduceToNat]
                    · have hb : haOk l k = false := by simp [haOk, hA, h4]
                      rw [upto_false h hb]
                      refine den_fin [some (0, none)] (by (try simp (disch := omega) only [go_sem, Nat.reduceEqDiff, Nat.reduceAdd, Nat.reduceSub, Int.reduceAdd, Int.reduceSub, Int.reduceToNat]) <;> omega) _ (by simp only [go_sem]; rfl) (by rfl) (by rfl) ?_
                      simp (disch := omega) only [go_sem, Nat.reduceEqDiff, Nat.reduceAdd, Nat.reduceSub, Int.reduceAdd, Int.reduceSub, Int.reduceToNat]
                    · have hg : haOk l k = true := by simp [haOk, hA, h2, h4, n0, n1, n2, n3, n4]
                      refine ⟨by (try simp (disch := omega) only [go_sem, Nat.reduceEqDiff, Nat.reduceAdd, Nat.reduceSub, Int.reduceAdd, Int.reduceSub, Int.reduceToNat]) <;> omega, hN _ (k + 1) [some (0, none)] (by (try dsimp only); exact ⟨by omega, upto_snoc hk2 hg⟩) (by (try dsimp only); omega) (weak_mk (by rfl) (by rfl) ?_)⟩
                      try simp (disch := omega) only [go_sem, Nat.reduceEqDiff, Nat.reduceAdd, Nat.reduceSub, Int.reduceAdd, Int.reduceSub, Int.reduceToNat]
                  · have hb : haOk l k = false := by simp [haOk, hA, n4]
                    rw [upto_false h hb]
                    refine den_fin [some (0, none)] (by (try simp (disch := omega) only [go_sem, Nat.reduceEqDiff, Nat.reduceAdd, Nat.reduceSub, Int.reduceAdd, Int.reduceSub, Int.reduceToNat]) <;> omega) _ (by simp only [go_sem]; rfl) (by rfl) (by rfl) ?_
                    simp (disch := omega) only [go_sem, Nat.reduceEqDiff, Nat.reduceAdd, Nat.reduceSub, Int.reduceAdd, Int.reduceSub, Int.reduceToNat]
                · have hb : haOk l k = false := by simp [haOk, hA, n3]
                  rw [upto_false h hb]
                  refine den_fin [some (0, none)] (by (try simp (disch := omega) only [go_sem, Nat.reduceEqDiff, Nat.reduceAdd, Nat.reduceSub, Int.reduceAdd, Int.reduceSub, Int.reduceToNat]) <;> omega) _ (by simp only [go_sem]; rfl) (by rfl) (by rfl) ?_
                  simp (disch := omega) only [go_sem, Nat.reduceEqDiff, Nat.reduceAdd, Nat.reduceSub, Int.reduceAdd, Int.reduceSub, Int.reduceToNat]
              · have hb : haOk l k = false := by simp [haOk, hA, n2]
                rw [upto_false h hb]
                refine den_fin [some (0, none)] (by (try simp (disch := omega) only [go_sem, Nat.reduceEqDiff, Nat.reduceAdd, Nat.reduceSub, Int.reduceAdd, Int.reduceSub, Int.reduceToNat]) <;> omega) _ (by simp only [go_sem]; rfl) (by rfl) (by rfl) ?_
                simp (disch := omega) only [go_sem, Nat.reduceEqDiff, Nat.reduceAdd, Nat.reduceSub, Int.reduceAdd, Int.reduceSub, Int.reduceToNat]
            · have hb : haOk l k = false := by simp [haOk, hA, n1]
              rw [upto_false h hb]
              refine den_fin [some (0, none)] (by (try simp (disch := omega) only [go_sem, Nat.reduceEqDiff, Nat.reduceAdd, Nat.reduceSub, Int.reduceAdd, Int.reduceSub, Int.reduceToNat]) <;> omega) _ (by simp only [go_sem]; rfl) (by rfl) (by rfl) ?_
              simp (disch := omega) only [go_sem, Nat.reduceEqDiff, Nat.reduceAdd, Nat.reduceSub, Int.reduceAdd, Int.reduceSub, Int.reduceToNat]
          · have hb : haOk l k = false := by simp [haOk, hA, n0]
            rw [upto_false h hb]
            refine den_fin [some (0, none)] (by (try simp (disch := omega) only [go_sem, Nat.reduceEqDiff, Nat.reduceAdd, Nat.reduceSub, Int.reduceAdd, Int.reduceSub, Int.reduceToNat]) <;> omega) _ (by simp only [go_sem]; rfl) (by rfl) (by rfl) ?_
            simp (disch := omega) only [go_sem, Nat.reduceEqDiff, Nat.reduceAdd, Nat.reduceSub, Int.reduceAdd, Int.reduceSub, Int.reduceToNat]
        · have hb : haOk l k = false := by simp [haOk, hA, h2]
          rw [upto_false h hb]
          refine den_fin [some (0, none)] (by (try simp (disch := omega) only [go_sem, Nat.reduceEqDiff, Nat.reduceAdd, Nat.reduceSub, Int.reduceAdd, Int.reduceSub, Int.reduceToNat]) <;> omega) _ (by simp only [go_sem]; rfl) (by rfl) (by rfl) ?_
          simp (disch := omega) only [go_sem, Nat.reduceEqDiff, Nat.reduceAdd, Nat.reduceSub, Int.reduceAdd, Int.reduceSub, Int.reduceToNat]
      · have e : k = l.length := by omega
        subst e
        rw [upto_true hk2]
        refine den_fin [some (0, none)] (by (try simp (disch := omega) only [go_sem, Nat.reduceEqDiff, Nat.reduceAdd, Nat.reduceSub, Int.reduceAdd, Int.reduceSub, Int.reduceToNat]) <;> omega) _ (by simp only [go_sem]; rfl) (by rfl) (by rfl) ?_
        simp (disch := omega) only [go_sem, Nat.reduceEqDiff, Nat.reduceAdd, Nat.reduceSub, Int.reduceAdd, Int.reduceSub, Int.reduceToNat]
end
end Go.Proofs.Ytoghbjbfldlfpaa
