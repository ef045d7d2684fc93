/-
  VX, part 13: what a function gives back; a contract out of a run of its body; contracts and the kit's Calls.
-/
import Derived.Test.YtoghbjbfldlfpaaGreatVx12
namespace Go.Proofs.YtoghbjbfldlfpaaGreat
open Go.RowKit
set_option linter.unusedVariables false
set_option linter.unusedSimpArgs false

def aRes1 (P : Program) (s : S) : ResultVar → Option AV
  | .tmp t => s.sl.get t
  | .cell a t => match s.sl.get a with
    | some (.sc (.pt o k j)) => match s.obj o with
      | some ob => match ob.cs[k]? with
        | some c => match tagg P t with
          | true => if j + tsz P t ≤ c.length then some (.ag ((c.drop j).take (tsz P t))) else none
          | false => if tknown P t then match c[j]? with
            | some x => some (.sc x)
            | none => none else none
        | none => none
      | none => none
    | _ => none
def aRess (P : Program) (s : S) : List ResultVar → Option (List AV)
  | [] => some []
  | r :: l => match aRes1 P s r, aRess P s l with
    | some v, some m => some (v :: m)
    | _, _ => none
def toCos : List AV → Option (List Co)
  | [] => some []
  | .sc x :: l => match toCos l with
    | some m => some (.sc x :: m)
    | none => none
  | .ag x :: l => match toCos l with
    | some m => some (.ag x :: m)
    | none => none
  | _ :: _ => none
def aRes (P : Program) (s : S) (rs : List ResultVar) : Option AV :=
  match aRess P s rs with
  | some [v] => some v
  | some l => match toCos l with
    | some m => some (.tu m)
    | none => none
  | none => none
section
variable {P : Program} {β : Be} {s : S} {w : World} {tm : Array Value}
def resRun (tm : Array Value) : ResultVar → Sem Value
  | .tmp t => pure (tm.getD t undef)
  | .cell a t => do loadVar t (← asAddr (tm.getD a undef))
theorem aRes1_R (hs : HSim β s.hp w) (hsl : SlotsR β s.sl tm) {r : ResultVar} {v : AV} (h : aRes1 P s r = some v) : ∃ u, (resRun tm r).run P w = .ok u w ∧ AVR β v u := by
  have slot : ∀ {t : Nat} {x : AV}, s.sl.get t = some x → AVR β x (tm.getD t undef) := by
    intro t x hx
    obtain ⟨u, hu, hr⟩ := hsl.2 t x hx
    have : tm.getD t undef = u := by simp [Array.getD_eq_getD_getElem?, hu]
    rw [this]; exact hr
  cases r with
  | tmp t => exact ⟨_, rfl, slot h⟩
  | cell a t =>
    simp only [aRes1] at h
    split at h
    · rename_i o k j hx
      have hv : ScR β (.pt o k j) (tm.getD a undef) := slot hx
      have hrun : ∀ {u : Value}, (Instr.loadAt t (tm.getD a undef)).run P w = .ok u w → (resRun tm (.cell a t)).run P w = .ok u w := by
        intro u hu
        obtain ⟨p, _, hpe⟩ := hv
        rw [hpe] at hu
        show ((do loadVar t (← asAddr (tm.getD a undef)) : Sem Value)).run P w = .ok u w
        rw [hpe]
        simpa [Instr.loadAt, Instr.sureAddr, asAddr] using hu
      split at h
      · rename_i ob hob
        split at h
        · rename_i c hk
          split at h
          · rename_i hag
            split at h
            · rename_i hn
              simp only [Option.some.injEq] at h
              subst h
              obtain ⟨vs, h1, h2⟩ := run_load_agg hs hob hk hag hn hv
              exact ⟨_, hrun h1, vs, rfl, h2⟩
            · cases h
          · rename_i hag
            split at h
            · rename_i hkn
              split at h
              · rename_i y hy
                simp only [Option.some.injEq] at h
                subst h
                obtain ⟨u, h1, h2⟩ := run_load_one hs hob hk hag hkn hy hv
                exact ⟨u, hrun h1, h2⟩
              · cases h
            · cases h
        · cases h
      · cases h
    · cases h
theorem aRess_R (hs : HSim β s.hp w) (hsl : SlotsR β s.sl tm) : ∀ {rs : List ResultVar} {l : List AV}, aRess P s rs = some l → ∃ us, (rs.mapM (resRun tm)).run P w = .ok us w ∧ L2 (AVR β) l us
  | [], l, h => by
    simp only [aRess, Option.some.injEq] at h
    subst h
    exact ⟨[], rfl, trivial⟩
  | r :: rs, l, h => by
    simp only [aRess] at h
    split at h
    · rename_i v m hv hm
      simp only [Option.some.injEq] at h
      subst h
      obtain ⟨u, h1, h2⟩ := aRes1_R hs hsl hv
      obtain ⟨us, h3, h4⟩ := aRess_R hs hsl hm
      refine ⟨u :: us, ?_, h2, h4⟩
      simp only [List.mapM_cons, Sem.run_bind, h1, Result.andThen_ok, h3, Sem.run_pure]
    · cases h
theorem toCos_R : ∀ {l : List AV} {m : List Co} {us : List Value}, toCos l = some m → L2 (AVR β) l us → L2 (CoR β) m us
  | [], m, [], h, _ => by simp only [toCos, Option.some.injEq] at h; subst h; trivial
  | .sc x :: l, m, u :: us, h, hu => by
    simp only [toCos] at h
    split at h
    · rename_i m' hm
      simp only [Option.some.injEq] at h
      subst h
      exact ⟨hu.1, toCos_R hm hu.2⟩
    · cases h
  | .ag x :: l, m, u :: us, h, hu => by
    simp only [toCos] at h
    split at h
    · rename_i m' hm
      simp only [Option.some.injEq] at h
      subst h
      exact ⟨hu.1, toCos_R hm hu.2⟩
    · cases h
  | .tu x :: l, m, us, h, _ => by cases h
  | .cl f x :: l, m, us, h, _ => by cases h
  | [], m, _ :: _, _, hu => hu.elim
  | .sc _ :: _, m, [], _, hu => hu.elim
  | .ag _ :: _, m, [], _, hu => hu.elim
theorem results_eq (fn : Func) (tm : Array Value) : results fn tm = (do let vs ← fn.results.mapM (resRun tm); pure (if h : vs.size = 1 then vs[0] else .tuple vs)) := by
  unfold results
  congr 1
theorem aRes_R (hs : HSim β s.hp w) (hsl : SlotsR β s.sl tm) {fn : Func} {v : AV} (h : aRes P s fn.results.toList = some v) : ∃ u, (results fn tm).run P w = .ok u w ∧ AVR β v u := by
  have harr : ∀ {us : List Value}, (fn.results.toList.mapM (resRun tm)).run P w = .ok us w → (fn.results.mapM (resRun tm)).run P w = .ok us.toArray w := by
    intro us hus
    rw [Array.mapM_eq_mapM_toList]
    have e : ∀ (m : Sem (List Value)), (List.toArray <$> m) = (do pure (List.toArray (← m))) := fun m => rfl
    rw [e, Sem.run_bind, hus]
    rfl
  unfold aRes at h
  split at h
  · rename_i x hx
    simp only [Option.some.injEq] at h
    subst h
    obtain ⟨us, h1, h2⟩ := aRess_R (P := P) hs hsl hx
    match us, h2 with
    | [u], h2 =>
      refine ⟨u, ?_, h2.1⟩
      rw [results_eq, Sem.run_bind, harr h1]
      rfl
    | [], h2 => exact h2.elim
    | _ :: _ :: _, h2 => exact h2.2.elim
  · rename_i l hne hx
    split at h
    · rename_i m hm
      simp only [Option.some.injEq] at h
      subst h
      obtain ⟨us, h1, h2⟩ := aRess_R (P := P) hs hsl hx
      refine ⟨.tuple us.toArray, ?_, us, rfl, toCos_R hm h2⟩
      rw [results_eq, Sem.run_bind, harr h1]
      have hl := h2.length
      have h1' : us.toArray.size ≠ 1 := by
        intro he
        have : l.length = 1 := by simpa [hl] using he
        match l, this with
        | [v], _ => exact hne v rfl
      simp only [Result.andThen_ok, dif_neg h1']
      rfl
    · cases h
  · cases h
end
/-- The end of a body: its result and its heap, seen as the contract's. -/
def EndF (P : Program) (rs : List ResultVar) (n0 : Nat) (res : AV) (h' : Hp) (s : S) : Prop :=
  ∃ v ρ, aRes P s rs = some v ∧ idB n0 0 ρ = true ∧ sepB ρ h' = true ∧ avM ρ res v ∧ hpM ρ s.hp ρ h'
theorem den_fin {P : Program} {E : Entry} {rs : List ResultVar} {n0 : Nat} {res : AV} {h' : Hp} {s : S} {c : Prop} (ρ : Rho) (hc : c) (v : AV) (hr : aRes P s rs = some v) (hid : idB n0 0 ρ = true) (hsep : sepB ρ h' = true) (hm : avM ρ res v ∧ hpM ρ s.hp ρ h') :
    den P E (EndF P rs n0 res h') (.fin s c) := ⟨hc, v, ρ, hr, hid, hsep, hm.1, hm.2⟩
theorem callA_of {P : Program} {f : FuncId} {fn : Func} {c : Code} (hf : P.funcs[f]? = some fn) (hname : (fn.name == "runtime.NumGoroutine") = false) (hb : fn.body = some c) {args : List AV} {h h' : Hp} {res : AV}
    (H : ∀ E : Entry, E.h.length = h.length → den P E (EndF P fn.results.toList h.length res h') (.go [.code c] ⟨initS fn.ntmps args, h⟩ True)) : CallA P f args h res h' := by
  refine ⟨⟨fn, hf, hname, by rw [hb]; rfl⟩, fun β w vs hs hvs => ?_⟩
  refine calls_of_wp hf hb ?_
  let E : Entry := ⟨β, h, w⟩
  have hd := (H E rfl).2
  refine hd β _ w ⟨rfl, initS_R hvs, hs, hs.len, StepR.refl β h w hs.len⟩ _ fun e s' β' a' w' hK hs' => ?_
  have key : EndF P fn.results.toList h.length res h' s' → a'.defers = [] ∧ ∃ v, (results fn a'.tmps).run P w' = .ok v w' ∧ ∃ β'' u, Ending.returned v = .returned u ∧ AVR β'' res u ∧ HSim β'' h' w' ∧ StepR β β'' h h' w w' := by
    intro ⟨v, ρ, hr, hid, hsep, hav, hhp⟩
    obtain ⟨u, hrun, hu⟩ := aRes_R hs'.hp hs'.sl hr
    have hw : WeakS ρ h.length ⟨[], h'⟩ ⟨[], s'.hp⟩ := ⟨hid, hsep, trivial, hhp⟩
    have hsim := sim_weak (E := E) rfl hw (β := β') (a := a') (w := w') ⟨hs'.dfr, ⟨fun i hi => by simp [Slots.has] at hi, fun i x hx => by simp [Slots.get] at hx⟩, hs'.hp, hs'.ent, hs'.st⟩
    exact ⟨hs'.dfr, u, hrun, beOf β' ρ, u, rfl, avM_R hav hu, hsim.hp, hsim.st⟩
  cases e with
  | normal => exact key hK
  | ret => exact key hK
  | _ => exact hK.elim
/-- A contract at a heap without objects, as the kit's walk wants it: all that was there is as it was. -/
theorem callA_below {P : Program} {f : FuncId} {args : List AV} {res : AV} {h' : Hp} (ct : CallA P f args [] res h') (w : World) (vs : List Value) (hvs : L2 (AVR []) args vs) :
    Calls P f vs.toArray w fun e w' => ∃ β' v, e = .returned v ∧ AVR β' res v ∧ HSim β' h' w' ∧ Below w.heap.size w w' :=
  (ct.2 [] w vs ⟨rfl, fun o ob h => by simp at h, fun o ob h => by simp at h, fun o o' ob ob' p p' h => by simp at h⟩ hvs).mono fun e w' ⟨β', v, he, hr, hh, hst⟩ =>
    ⟨β', v, he, hr, hh, ⟨hst.os, hst.tape, hst.output, hst.size, fun k hk => hst.block k hk (fun ⟨o, ob, p, h, _⟩ => by simp at h)⟩⟩
theorem callA_mono {P : Program} {f : FuncId} {args : List AV} {h h' : Hp} {res res' : AV} (ct : CallA P f args h res h') (e : res = res') : CallA P f args h res' h' := e ▸ ct
end Go.Proofs.YtoghbjbfldlfpaaGreat
