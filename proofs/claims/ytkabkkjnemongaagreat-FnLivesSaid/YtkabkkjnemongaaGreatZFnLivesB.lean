/-
  Texts merged for this claim by shake.py: what its proof needs.
-/
import Derived.Tactics
import Derived.Below
import Derived.Laws.AppendOwn
import Derived.Laws.OwnMore
import Derived.Laws.Slices
import Derived.Laws.Small
import Derived.Laws.Strings
import Derived.KernelRfl
import Derived.Laws.MakeOwn
import Derived.Laws.BytesString
import Derived.Laws.BytesArg
import Derived.Laws.Build
import Derived.Laws.Concat
import Derived.Laws.StructEq
import Derived.Lib.ConvBytes
import Derived.Orders
import Derived.WalkKit
import Derived.ProofKit
import Derived.ShutString
import Derived.OpenShut
import Derived.ChangeOld
import Derived.Carry
import Derived.Test.YtkabkkjnemongaaGreatChecked
import Derived.Laws.BitsLemmas
import Derived.JoinedOf
import Derived.Test.YtkabkkjnemongaaGreatRows
import Derived.Test.YtkabkkjnemongaaGreatZFnLivesA
set_option maxHeartbeats 16000000
set_option maxRecDepth 100000
set_option linter.unusedVariables false
set_option linter.unusedSimpArgs false
namespace Go.Proofs.YtkabkkjnemongaaGreat
section
open Go.RowKit

def aRes1 (P : Program) (s : S) : ResultVar → Option AV
 | .tmp t => s.sl.get t
 | .cell a t => match s.sl.get a with
  | some (.sc (.pt o k j)) => match s.obj o with
   | some ob => match ob.cs[k]? with
    | some c => match tagg P t with
     | true => if j + tsz P t ≤ c.length then some (.ag ((c.drop j).take (tsz P t))) else none
     | false => if tknown P t then match c[j]? with
      | some x => some (.sc x)
      | none => none else none
    | none => none
   | none => none
  | _ => none
def aRess (P : Program) (s : S) : List ResultVar → Option (List AV)
 | [] => some []
 | r :: l => match aRes1 P s r, aRess P s l with
  | some v, some m => some (v :: m)
  | _, _ => none
def toCos : List AV → Option (List Co)
 | [] => some []
 | .sc x :: l => match toCos l with
  | some m => some (.sc x :: m)
  | none => none
 | .ag x :: l => match toCos l with
  | some m => some (.ag x :: m)
  | none => none
 | _ :: _ => none
def aRes (P : Program) (s : S) (rs : List ResultVar) : Option AV :=
 match aRess P s rs with
 | some [v] => some v
 | some l => match toCos l with
  | some m => some (.tu m)
  | none => none
 | none => none
section
variable {P : Program} {β : Be} {s : S} {w : World} {tm : Array Value}
def resRun (tm : Array Value) : ResultVar → Sem Value
 | .tmp t => pure (tm.getD t undef)
 | .cell a t => do loadVar t (← asAddr (tm.getD a undef))
theorem aRes1_R (hs : HSim β s.hp w) (hsl : SlotsR β s.sl tm) {r : ResultVar} {v : AV} (h : aRes1 P s r = some v) : ∃ u, (resRun tm r).run P w = .ok u w ∧ AVR β v u := by
 have slot : ∀ {t : Nat} {x : AV}, s.sl.get t = some x → AVR β x (tm.getD t undef) := by
  intro t x hx
  obtain ⟨u, hu, hr⟩ := hsl.2 t x hx
  have : tm.getD t undef = u := by simp [Array.getD_eq_getD_getElem?, hu]
  rw [this]; exact hr
 cases r with
 | tmp t => exact ⟨_, rfl, slot h⟩
 | cell a t =>
  simp only [aRes1] at h
  split at h
  ·rename_i o k j hx
   have hv : ScR β (.pt o k j) (tm.getD a undef) := slot hx
   have hrun : ∀ {u : Value}, (Instr.loadAt t (tm.getD a undef)).run P w = .ok u w → (resRun tm (.cell a t)).run P w = .ok u w := by
    intro u hu
    obtain ⟨p, _, hpe⟩ := hv
    rw [hpe] at hu
    show ((do loadVar t (← asAddr (tm.getD a undef)) : Sem Value)).run P w = .ok u w
    rw [hpe]
    simpa [Instr.loadAt, Instr.sureAddr, asAddr] using hu
   split at h
   ·rename_i ob hob
    split at h
    ·rename_i c hk
     split at h
     ·rename_i hag
      split at h
      ·rename_i hn
       simp only [Option.some.injEq] at h
       subst h
       obtain ⟨vs, h1, h2⟩ := run_load_agg hs hob hk hag hn hv
       exact ⟨_, hrun h1, vs, rfl, h2⟩
      ·cases h
     ·rename_i hag
      split at h
      ·rename_i hkn
       split at h
       ·rename_i y hy
        simp only [Option.some.injEq] at h
        subst h
        obtain ⟨u, h1, h2⟩ := run_load_one hs hob hk hag hkn hy hv
        exact ⟨u, hrun h1, h2⟩
       ·cases h
      ·cases h
    ·cases h
   ·cases h
  ·cases h
theorem aRess_R (hs : HSim β s.hp w) (hsl : SlotsR β s.sl tm) : ∀ {rs : List ResultVar} {l : List AV}, aRess P s rs = some l → ∃ us, (rs.mapM (resRun tm)).run P w = .ok us w ∧ L2 (AVR β) l us
 | [], l, h => by
  simp only [aRess, Option.some.injEq] at h
  subst h
  exact ⟨[], rfl, trivial⟩
 | r :: rs, l, h => by
  simp only [aRess] at h
  split at h
  ·rename_i v m hv hm
   simp only [Option.some.injEq] at h
   subst h
   obtain ⟨u, h1, h2⟩ := aRes1_R hs hsl hv
   obtain ⟨us, h3, h4⟩ := aRess_R hs hsl hm
   refine ⟨u :: us, ?_, h2, h4⟩
   simp only [List.mapM_cons, Sem.run_bind, h1, Result.andThen_ok, h3, Sem.run_pure]
  ·cases h
theorem toCos_R : ∀ {l : List AV} {m : List Co} {us : List Value}, toCos l = some m → L2 (AVR β) l us → L2 (CoR β) m us
 | [], m, [], h, _ => by simp only [toCos, Option.some.injEq] at h; subst h; trivial
 | .sc x :: l, m, u :: us, h, hu => by
  simp only [toCos] at h
  split at h
  ·rename_i m' hm
   simp only [Option.some.injEq] at h
   subst h
   exact ⟨hu.1, toCos_R hm hu.2⟩
  ·cases h
 | .ag x :: l, m, u :: us, h, hu => by
  simp only [toCos] at h
  split at h
  ·rename_i m' hm
   simp only [Option.some.injEq] at h
   subst h
   exact ⟨hu.1, toCos_R hm hu.2⟩
  ·cases h
 | .tu x :: l, m, us, h, _ => by cases h
 | .cl f x :: l, m, us, h, _ => by cases h
 | [], m, _ :: _, _, hu => hu.elim
 | .sc _ :: _, m, [], _, hu => hu.elim
 | .ag _ :: _, m, [], _, hu => hu.elim
theorem results_eq (fn : Func) (tm : Array Value) : results fn tm = (do let vs ← fn.results.mapM (resRun tm); pure (if h : vs.size = 1 then vs[0] else .tuple vs)) := by
 unfold results
 congr 1
theorem aRes_R (hs : HSim β s.hp w) (hsl : SlotsR β s.sl tm) {fn : Func} {v : AV} (h : aRes P s fn.results.toList = some v) : ∃ u, (results fn tm).run P w = .ok u w ∧ AVR β v u := by
 have harr : ∀ {us : List Value}, (fn.results.toList.mapM (resRun tm)).run P w = .ok us w → (fn.results.mapM (resRun tm)).run P w = .ok us.toArray w := by
  intro us hus
  rw [Array.mapM_eq_mapM_toList]
  have e : ∀ (m : Sem (List Value)), (List.toArray <$> m) = (do pure (List.toArray (← m))) := fun m => rfl
  rw [e, Sem.run_bind, hus]
  rfl
 unfold aRes at h
 split at h
 ·rename_i x hx
  simp only [Option.some.injEq] at h
  subst h
  obtain ⟨us, h1, h2⟩ := aRess_R (P := P) hs hsl hx
  match us, h2 with
  | [u], h2 =>
   refine ⟨u, ?_, h2.1⟩
   rw [results_eq, Sem.run_bind, harr h1]
   rfl
  | [], h2 => exact h2.elim
  | _ :: _ :: _, h2 => exact h2.2.elim
 ·rename_i l hne hx
  split at h
  ·rename_i m hm
   simp only [Option.some.injEq] at h
   subst h
   obtain ⟨us, h1, h2⟩ := aRess_R (P := P) hs hsl hx
   refine ⟨.tuple us.toArray, ?_, us, rfl, toCos_R hm h2⟩
   rw [results_eq, Sem.run_bind, harr h1]
   have hl := h2.length
   have h1' : us.toArray.size ≠ 1 := by
    intro he
    have : l.length = 1 := by simpa [hl] using he
    match l, this with
    | [v], _ => exact hne v rfl
   simp only [Result.andThen_ok, dif_neg h1']
   rfl
  ·cases h
 ·cases h
end
def EndF (P : Program) (rs : List ResultVar) (n0 : Nat) (res : AV) (h' : Hp) (s : S) : Prop :=
 ∃ v ρ, aRes P s rs = some v ∧ idB n0 0 ρ = true ∧ sepB ρ h' = true ∧ avM ρ res v ∧ hpM ρ s.hp ρ h'
theorem den_fin {P : Program} {E : Entry} {rs : List ResultVar} {n0 : Nat} {res : AV} {h' : Hp} {s : S} {c : Prop} (ρ : Rho) (hc : c) (v : AV) (hr : aRes P s rs = some v) (hid : idB n0 0 ρ = true) (hsep : sepB ρ h' = true) (hm : avM ρ res v ∧ hpM ρ s.hp ρ h') :
  den P E (EndF P rs n0 res h') (.fin s c) := ⟨hc, v, ρ, hr, hid, hsep, hm.1, hm.2⟩
theorem callA_of {P : Program} {f : FuncId} {fn : Func} {c : Code} (hf : P.funcs[f]? = some fn) (hname : (fn.name == "runtime.NumGoroutine") = false) (hb : fn.body = some c) {args : List AV} {h h' : Hp} {res : AV}
  (H : ∀ E : Entry, E.h.length = h.length → den P E (EndF P fn.results.toList h.length res h') (.go [.code c] ⟨initS fn.ntmps args, h⟩ True)) : CallA P f args h res h' := by
 refine ⟨⟨fn, hf, hname, by rw [hb]; rfl⟩, fun β w vs hs hvs => ?_⟩
 refine calls_of_wp hf hb ?_
 let E : Entry := ⟨β, h, w⟩
 have hd := (H E rfl).2
 refine hd β _ w ⟨rfl, initS_R hvs, hs, hs.len, StepR.refl β h w hs.len⟩ _ fun e s' β' a' w' hK hs' => ?_
 have key : EndF P fn.results.toList h.length res h' s' → a'.defers = [] ∧ ∃ v, (results fn a'.tmps).run P w' = .ok v w' ∧ ∃ β'' u, Ending.returned v = .returned u ∧ AVR β'' res u ∧ HSim β'' h' w' ∧ StepR β β'' h h' w w' := by
  intro ⟨v, ρ, hr, hid, hsep, hav, hhp⟩
  obtain ⟨u, hrun, hu⟩ := aRes_R hs'.hp hs'.sl hr
  have hw : WeakS ρ h.length ⟨[], h'⟩ ⟨[], s'.hp⟩ := ⟨hid, hsep, trivial, hhp⟩
  have hsim := sim_weak (E := E) rfl hw (β := β') (a := a') (w := w') ⟨hs'.dfr, ⟨fun i hi => by simp [Slots.has] at hi, fun i x hx => by simp [Slots.get] at hx⟩, hs'.hp, hs'.ent, hs'.st⟩
  exact ⟨hs'.dfr, u, hrun, beOf β' ρ, u, rfl, avM_R hav hu, hsim.hp, hsim.st⟩
 cases e with
 | normal => exact key hK
 | ret => exact key hK
 | _ => exact hK.elim
end
section
theorem nameAt_eq (ρ : Rho) (N o : Nat) : nameAt ρ N o = match ρ[o]? with
  | some x => x
  | none => some (N + (o - ρ.length), none) := by
 unfold nameAt
 by_cases h : o < ρ.length
 ·rw [if_pos h, List.getElem?_eq_getElem h]
  unfold Rho.at
  rw [List.getD_eq_getElem?_getD, List.getElem?_eq_getElem h]
  rfl
 ·rw [if_neg h, List.getElem?_eq_none (by omega)]
attribute [go_sem] run stepG stepOp exitK guardOf aop aBin aInt aAppend aSlice optInt S.ev S.evs S.put S.obj S.new S.val S.valc S.parts S.scals Slots.get Slots.put Sc.ofV scs AV.ofV AV.cells Co.av fillA fillL over spl lenIs fits leB scAll flatC flatL Sc.isFlat padN initS chunks renAV renSc renC renCo renTu renCs renOb renHp optOb updH hpCall nameAt_eq Rho.at S.kill S.sets S.at Int.toNat_natCast List.length_map aRes aRess aRes1 toCos scEq scsEq avM avsM scM cM coM tuM csM hpM obM slM slM1 beq_self_eq_true
attribute [go_sem] List.map_cons List.map_nil List.cons_append List.nil_append List.append_nil List.take_succ_cons List.take_zero List.take_nil List.drop_succ_cons List.drop_zero List.drop_nil List.getD_cons_zero List.getD_cons_succ List.getD_nil List.set_cons_zero List.set_cons_succ List.getElem?_cons_zero List.getElem?_cons_succ List.getElem?_nil List.length_cons List.length_nil List.getElem?_toArray List.toList_toArray Option.map_some Option.map_none Option.bind_some Bool.and_true Bool.true_and Bool.and_self and_true true_and and_self if_true if_false List.replicate_succ List.replicate_zero Nat.zero_add Nat.add_zero Bool.not_true Bool.not_false beq_true beq_false List.mem_cons
theorem arr_append {α : Type} (l m : List α) : Array.append l.toArray m.toArray = (l ++ m).toArray := by simp
attribute [go_sem] arr_append
theorem d16_0 : (0 : Nat) / 16 = 0 := rfl
theorem m16_0 : (0 : Nat) % 16 = 0 := rfl
theorem d16_1 : (1 : Nat) / 16 = 0 := rfl
theorem m16_1 : (1 : Nat) % 16 = 1 := rfl
theorem d16_2 : (2 : Nat) / 16 = 0 := rfl
theorem m16_2 : (2 : Nat) % 16 = 2 := rfl
theorem d16_3 : (3 : Nat) / 16 = 0 := rfl
theorem m16_3 : (3 : Nat) % 16 = 3 := rfl
theorem d16_4 : (4 : Nat) / 16 = 0 := rfl
theorem m16_4 : (4 : Nat) % 16 = 4 := rfl
theorem d16_5 : (5 : Nat) / 16 = 0 := rfl
theorem m16_5 : (5 : Nat) % 16 = 5 := rfl
theorem d16_6 : (6 : Nat) / 16 = 0 := rfl
theorem m16_6 : (6 : Nat) % 16 = 6 := rfl
theorem d16_7 : (7 : Nat) / 16 = 0 := rfl
theorem m16_7 : (7 : Nat) % 16 = 7 := rfl
theorem d16_8 : (8 : Nat) / 16 = 0 := rfl
theorem m16_8 : (8 : Nat) % 16 = 8 := rfl
theorem d16_9 : (9 : Nat) / 16 = 0 := rfl
theorem m16_9 : (9 : Nat) % 16 = 9 := rfl
theorem d16_10 : (10 : Nat) / 16 = 0 := rfl
theorem m16_10 : (10 : Nat) % 16 = 10 := rfl
theorem d16_11 : (11 : Nat) / 16 = 0 := rfl
theorem m16_11 : (11 : Nat) % 16 = 11 := rfl
theorem d16_12 : (12 : Nat) / 16 = 0 := rfl
theorem m16_12 : (12 : Nat) % 16 = 12 := rfl
theorem d16_13 : (13 : Nat) / 16 = 0 := rfl
theorem m16_13 : (13 : Nat) % 16 = 13 := rfl
theorem d16_14 : (14 : Nat) / 16 = 0 := rfl
theorem m16_14 : (14 : Nat) % 16 = 14 := rfl
theorem d16_15 : (15 : Nat) / 16 = 0 := rfl
theorem m16_15 : (15 : Nat) % 16 = 15 := rfl
theorem d16_16 : (16 : Nat) / 16 = 1 := rfl
theorem m16_16 : (16 : Nat) % 16 = 0 := rfl
theorem d16_17 : (17 : Nat) / 16 = 1 := rfl
theorem m16_17 : (17 : Nat) % 16 = 1 := rfl
theorem d16_18 : (18 : Nat) / 16 = 1 := rfl
theorem m16_18 : (18 : Nat) % 16 = 2 := rfl
theorem d16_19 : (19 : Nat) / 16 = 1 := rfl
theorem m16_19 : (19 : Nat) % 16 = 3 := rfl
theorem d16_20 : (20 : Nat) / 16 = 1 := rfl
theorem m16_20 : (20 : Nat) % 16 = 4 := rfl
theorem d16_21 : (21 : Nat) / 16 = 1 := rfl
theorem m16_21 : (21 : Nat) % 16 = 5 := rfl
theorem d16_22 : (22 : Nat) / 16 = 1 := rfl
theorem m16_22 : (22 : Nat) % 16 = 6 := rfl
theorem d16_23 : (23 : Nat) / 16 = 1 := rfl
theorem m16_23 : (23 : Nat) % 16 = 7 := rfl
theorem d16_24 : (24 : Nat) / 16 = 1 := rfl
theorem m16_24 : (24 : Nat) % 16 = 8 := rfl
theorem d16_25 : (25 : Nat) / 16 = 1 := rfl
theorem m16_25 : (25 : Nat) % 16 = 9 := rfl
theorem d16_26 : (26 : Nat) / 16 = 1 := rfl
theorem m16_26 : (26 : Nat) % 16 = 10 := rfl
theorem d16_27 : (27 : Nat) / 16 = 1 := rfl
theorem m16_27 : (27 : Nat) % 16 = 11 := rfl
theorem d16_28 : (28 : Nat) / 16 = 1 := rfl
theorem m16_28 : (28 : Nat) % 16 = 12 := rfl
theorem d16_29 : (29 : Nat) / 16 = 1 := rfl
theorem m16_29 : (29 : Nat) % 16 = 13 := rfl
theorem d16_30 : (30 : Nat) / 16 = 1 := rfl
theorem m16_30 : (30 : Nat) % 16 = 14 := rfl
theorem d16_31 : (31 : Nat) / 16 = 1 := rfl
theorem m16_31 : (31 : Nat) % 16 = 15 := rfl
theorem d16_32 : (32 : Nat) / 16 = 2 := rfl
theorem m16_32 : (32 : Nat) % 16 = 0 := rfl
theorem d16_33 : (33 : Nat) / 16 = 2 := rfl
theorem m16_33 : (33 : Nat) % 16 = 1 := rfl
theorem d16_34 : (34 : Nat) / 16 = 2 := rfl
theorem m16_34 : (34 : Nat) % 16 = 2 := rfl
theorem d16_35 : (35 : Nat) / 16 = 2 := rfl
theorem m16_35 : (35 : Nat) % 16 = 3 := rfl
theorem d16_36 : (36 : Nat) / 16 = 2 := rfl
theorem m16_36 : (36 : Nat) % 16 = 4 := rfl
theorem d16_37 : (37 : Nat) / 16 = 2 := rfl
theorem m16_37 : (37 : Nat) % 16 = 5 := rfl
theorem d16_38 : (38 : Nat) / 16 = 2 := rfl
theorem m16_38 : (38 : Nat) % 16 = 6 := rfl
theorem d16_39 : (39 : Nat) / 16 = 2 := rfl
theorem m16_39 : (39 : Nat) % 16 = 7 := rfl
theorem d16_40 : (40 : Nat) / 16 = 2 := rfl
theorem m16_40 : (40 : Nat) % 16 = 8 := rfl
theorem d16_41 : (41 : Nat) / 16 = 2 := rfl
theorem m16_41 : (41 : Nat) % 16 = 9 := rfl
theorem d16_42 : (42 : Nat) / 16 = 2 := rfl
theorem m16_42 : (42 : Nat) % 16 = 10 := rfl
theorem d16_43 : (43 : Nat) / 16 = 2 := rfl
theorem m16_43 : (43 : Nat) % 16 = 11 := rfl
theorem d16_44 : (44 : Nat) / 16 = 2 := rfl
theorem m16_44 : (44 : Nat) % 16 = 12 := rfl
theorem d16_45 : (45 : Nat) / 16 = 2 := rfl
theorem m16_45 : (45 : Nat) % 16 = 13 := rfl
theorem d16_46 : (46 : Nat) / 16 = 2 := rfl
theorem m16_46 : (46 : Nat) % 16 = 14 := rfl
theorem d16_47 : (47 : Nat) / 16 = 2 := rfl
theorem m16_47 : (47 : Nat) % 16 = 15 := rfl
theorem d16_48 : (48 : Nat) / 16 = 3 := rfl
theorem m16_48 : (48 : Nat) % 16 = 0 := rfl
theorem d16_49 : (49 : Nat) / 16 = 3 := rfl
theorem m16_49 : (49 : Nat) % 16 = 1 := rfl
theorem d16_50 : (50 : Nat) / 16 = 3 := rfl
theorem m16_50 : (50 : Nat) % 16 = 2 := rfl
theorem d16_51 : (51 : Nat) / 16 = 3 := rfl
theorem m16_51 : (51 : Nat) % 16 = 3 := rfl
theorem d16_52 : (52 : Nat) / 16 = 3 := rfl
theorem m16_52 : (52 : Nat) % 16 = 4 := rfl
theorem d16_53 : (53 : Nat) / 16 = 3 := rfl
theorem m16_53 : (53 : Nat) % 16 = 5 := rfl
theorem d16_54 : (54 : Nat) / 16 = 3 := rfl
theorem m16_54 : (54 : Nat) % 16 = 6 := rfl
theorem d16_55 : (55 : Nat) / 16 = 3 := rfl
theorem m16_55 : (55 : Nat) % 16 = 7 := rfl
theorem d16_56 : (56 : Nat) / 16 = 3 := rfl
theorem m16_56 : (56 : Nat) % 16 = 8 := rfl
theorem d16_57 : (57 : Nat) / 16 = 3 := rfl
theorem m16_57 : (57 : Nat) % 16 = 9 := rfl
theorem d16_58 : (58 : Nat) / 16 = 3 := rfl
theorem m16_58 : (58 : Nat) % 16 = 10 := rfl
theorem d16_59 : (59 : Nat) / 16 = 3 := rfl
theorem m16_59 : (59 : Nat) % 16 = 11 := rfl
theorem d16_60 : (60 : Nat) / 16 = 3 := rfl
theorem m16_60 : (60 : Nat) % 16 = 12 := rfl
theorem d16_61 : (61 : Nat) / 16 = 3 := rfl
theorem m16_61 : (61 : Nat) % 16 = 13 := rfl
theorem d16_62 : (62 : Nat) / 16 = 3 := rfl
theorem m16_62 : (62 : Nat) % 16 = 14 := rfl
theorem d16_63 : (63 : Nat) / 16 = 3 := rfl
theorem m16_63 : (63 : Nat) % 16 = 15 := rfl
theorem d16_64 : (64 : Nat) / 16 = 4 := rfl
theorem m16_64 : (64 : Nat) % 16 = 0 := rfl
theorem d16_65 : (65 : Nat) / 16 = 4 := rfl
theorem m16_65 : (65 : Nat) % 16 = 1 := rfl
theorem d16_66 : (66 : Nat) / 16 = 4 := rfl
theorem m16_66 : (66 : Nat) % 16 = 2 := rfl
theorem d16_67 : (67 : Nat) / 16 = 4 := rfl
theorem m16_67 : (67 : Nat) % 16 = 3 := rfl
theorem d16_68 : (68 : Nat) / 16 = 4 := rfl
theorem m16_68 : (68 : Nat) % 16 = 4 := rfl
theorem d16_69 : (69 : Nat) / 16 = 4 := rfl
theorem m16_69 : (69 : Nat) % 16 = 5 := rfl
theorem d16_70 : (70 : Nat) / 16 = 4 := rfl
theorem m16_70 : (70 : Nat) % 16 = 6 := rfl
theorem d16_71 : (71 : Nat) / 16 = 4 := rfl
theorem m16_71 : (71 : Nat) % 16 = 7 := rfl
theorem d16_72 : (72 : Nat) / 16 = 4 := rfl
theorem m16_72 : (72 : Nat) % 16 = 8 := rfl
theorem d16_73 : (73 : Nat) / 16 = 4 := rfl
theorem m16_73 : (73 : Nat) % 16 = 9 := rfl
theorem d16_74 : (74 : Nat) / 16 = 4 := rfl
theorem m16_74 : (74 : Nat) % 16 = 10 := rfl
theorem d16_75 : (75 : Nat) / 16 = 4 := rfl
theorem m16_75 : (75 : Nat) % 16 = 11 := rfl
theorem d16_76 : (76 : Nat) / 16 = 4 := rfl
theorem m16_76 : (76 : Nat) % 16 = 12 := rfl
theorem d16_77 : (77 : Nat) / 16 = 4 := rfl
theorem m16_77 : (77 : Nat) % 16 = 13 := rfl
theorem d16_78 : (78 : Nat) / 16 = 4 := rfl
theorem m16_78 : (78 : Nat) % 16 = 14 := rfl
theorem d16_79 : (79 : Nat) / 16 = 4 := rfl
theorem m16_79 : (79 : Nat) % 16 = 15 := rfl
theorem d16_80 : (80 : Nat) / 16 = 5 := rfl
theorem m16_80 : (80 : Nat) % 16 = 0 := rfl
theorem d16_81 : (81 : Nat) / 16 = 5 := rfl
theorem m16_81 : (81 : Nat) % 16 = 1 := rfl
theorem d16_82 : (82 : Nat) / 16 = 5 := rfl
theorem m16_82 : (82 : Nat) % 16 = 2 := rfl
theorem d16_83 : (83 : Nat) / 16 = 5 := rfl
theorem m16_83 : (83 : Nat) % 16 = 3 := rfl
theorem d16_84 : (84 : Nat) / 16 = 5 := rfl
theorem m16_84 : (84 : Nat) % 16 = 4 := rfl
theorem d16_85 : (85 : Nat) / 16 = 5 := rfl
theorem m16_85 : (85 : Nat) % 16 = 5 := rfl
theorem d16_86 : (86 : Nat) / 16 = 5 := rfl
theorem m16_86 : (86 : Nat) % 16 = 6 := rfl
theorem d16_87 : (87 : Nat) / 16 = 5 := rfl
theorem m16_87 : (87 : Nat) % 16 = 7 := rfl
theorem d16_88 : (88 : Nat) / 16 = 5 := rfl
theorem m16_88 : (88 : Nat) % 16 = 8 := rfl
theorem d16_89 : (89 : Nat) / 16 = 5 := rfl
theorem m16_89 : (89 : Nat) % 16 = 9 := rfl
theorem d16_90 : (90 : Nat) / 16 = 5 := rfl
theorem m16_90 : (90 : Nat) % 16 = 10 := rfl
theorem d16_91 : (91 : Nat) / 16 = 5 := rfl
theorem m16_91 : (91 : Nat) % 16 = 11 := rfl
theorem d16_92 : (92 : Nat) / 16 = 5 := rfl
theorem m16_92 : (92 : Nat) % 16 = 12 := rfl
theorem d16_93 : (93 : Nat) / 16 = 5 := rfl
theorem m16_93 : (93 : Nat) % 16 = 13 := rfl
theorem d16_94 : (94 : Nat) / 16 = 5 := rfl
theorem m16_94 : (94 : Nat) % 16 = 14 := rfl
theorem d16_95 : (95 : Nat) / 16 = 5 := rfl
theorem m16_95 : (95 : Nat) % 16 = 15 := rfl
theorem d16_96 : (96 : Nat) / 16 = 6 := rfl
theorem m16_96 : (96 : Nat) % 16 = 0 := rfl
theorem d16_97 : (97 : Nat) / 16 = 6 := rfl
theorem m16_97 : (97 : Nat) % 16 = 1 := rfl
theorem d16_98 : (98 : Nat) / 16 = 6 := rfl
theorem m16_98 : (98 : Nat) % 16 = 2 := rfl
theorem d16_99 : (99 : Nat) / 16 = 6 := rfl
theorem m16_99 : (99 : Nat) % 16 = 3 := rfl
theorem d16_100 : (100 : Nat) / 16 = 6 := rfl
theorem m16_100 : (100 : Nat) % 16 = 4 := rfl
theorem d16_101 : (101 : Nat) / 16 = 6 := rfl
theorem m16_101 : (101 : Nat) % 16 = 5 := rfl
theorem d16_102 : (102 : Nat) / 16 = 6 := rfl
theorem m16_102 : (102 : Nat) % 16 = 6 := rfl
theorem d16_103 : (103 : Nat) / 16 = 6 := rfl
theorem m16_103 : (103 : Nat) % 16 = 7 := rfl
theorem d16_104 : (104 : Nat) / 16 = 6 := rfl
theorem m16_104 : (104 : Nat) % 16 = 8 := rfl
theorem d16_105 : (105 : Nat) / 16 = 6 := rfl
theorem m16_105 : (105 : Nat) % 16 = 9 := rfl
theorem d16_106 : (106 : Nat) / 16 = 6 := rfl
theorem m16_106 : (106 : Nat) % 16 = 10 := rfl
theorem d16_107 : (107 : Nat) / 16 = 6 := rfl
theorem m16_107 : (107 : Nat) % 16 = 11 := rfl
theorem d16_108 : (108 : Nat) / 16 = 6 := rfl
theorem m16_108 : (108 : Nat) % 16 = 12 := rfl
theorem d16_109 : (109 : Nat) / 16 = 6 := rfl
theorem m16_109 : (109 : Nat) % 16 = 13 := rfl
theorem d16_110 : (110 : Nat) / 16 = 6 := rfl
theorem m16_110 : (110 : Nat) % 16 = 14 := rfl
theorem d16_111 : (111 : Nat) / 16 = 6 := rfl
theorem m16_111 : (111 : Nat) % 16 = 15 := rfl
theorem d16_112 : (112 : Nat) / 16 = 7 := rfl
theorem m16_112 : (112 : Nat) % 16 = 0 := rfl
theorem d16_113 : (113 : Nat) / 16 = 7 := rfl
theorem m16_113 : (113 : Nat) % 16 = 1 := rfl
theorem d16_114 : (114 : Nat) / 16 = 7 := rfl
theorem m16_114 : (114 : Nat) % 16 = 2 := rfl
theorem d16_115 : (115 : Nat) / 16 = 7 := rfl
theorem m16_115 : (115 : Nat) % 16 = 3 := rfl
theorem d16_116 : (116 : Nat) / 16 = 7 := rfl
theorem m16_116 : (116 : Nat) % 16 = 4 := rfl
theorem d16_117 : (117 : Nat) / 16 = 7 := rfl
theorem m16_117 : (117 : Nat) % 16 = 5 := rfl
theorem d16_118 : (118 : Nat) / 16 = 7 := rfl
theorem m16_118 : (118 : Nat) % 16 = 6 := rfl
theorem d16_119 : (119 : Nat) / 16 = 7 := rfl
theorem m16_119 : (119 : Nat) % 16 = 7 := rfl
theorem d16_120 : (120 : Nat) / 16 = 7 := rfl
theorem m16_120 : (120 : Nat) % 16 = 8 := rfl
theorem d16_121 : (121 : Nat) / 16 = 7 := rfl
theorem m16_121 : (121 : Nat) % 16 = 9 := rfl
theorem d16_122 : (122 : Nat) / 16 = 7 := rfl
theorem m16_122 : (122 : Nat) % 16 = 10 := rfl
theorem d16_123 : (123 : Nat) / 16 = 7 := rfl
theorem m16_123 : (123 : Nat) % 16 = 11 := rfl
theorem d16_124 : (124 : Nat) / 16 = 7 := rfl
theorem m16_124 : (124 : Nat) % 16 = 12 := rfl
theorem d16_125 : (125 : Nat) / 16 = 7 := rfl
theorem m16_125 : (125 : Nat) % 16 = 13 := rfl
theorem d16_126 : (126 : Nat) / 16 = 7 := rfl
theorem m16_126 : (126 : Nat) % 16 = 14 := rfl
theorem d16_127 : (127 : Nat) / 16 = 7 := rfl
theorem m16_127 : (127 : Nat) % 16 = 15 := rfl
theorem d16_128 : (128 : Nat) / 16 = 8 := rfl
theorem m16_128 : (128 : Nat) % 16 = 0 := rfl
theorem d16_129 : (129 : Nat) / 16 = 8 := rfl
theorem m16_129 : (129 : Nat) % 16 = 1 := rfl
theorem d16_130 : (130 : Nat) / 16 = 8 := rfl
theorem m16_130 : (130 : Nat) % 16 = 2 := rfl
theorem d16_131 : (131 : Nat) / 16 = 8 := rfl
theorem m16_131 : (131 : Nat) % 16 = 3 := rfl
theorem d16_132 : (132 : Nat) / 16 = 8 := rfl
theorem m16_132 : (132 : Nat) % 16 = 4 := rfl
theorem d16_133 : (133 : Nat) / 16 = 8 := rfl
theorem m16_133 : (133 : Nat) % 16 = 5 := rfl
theorem d16_134 : (134 : Nat) / 16 = 8 := rfl
theorem m16_134 : (134 : Nat) % 16 = 6 := rfl
theorem d16_135 : (135 : Nat) / 16 = 8 := rfl
theorem m16_135 : (135 : Nat) % 16 = 7 := rfl
theorem d16_136 : (136 : Nat) / 16 = 8 := rfl
theorem m16_136 : (136 : Nat) % 16 = 8 := rfl
theorem d16_137 : (137 : Nat) / 16 = 8 := rfl
theorem m16_137 : (137 : Nat) % 16 = 9 := rfl
theorem d16_138 : (138 : Nat) / 16 = 8 := rfl
theorem m16_138 : (138 : Nat) % 16 = 10 := rfl
theorem d16_139 : (139 : Nat) / 16 = 8 := rfl
theorem m16_139 : (139 : Nat) % 16 = 11 := rfl
theorem d16_140 : (140 : Nat) / 16 = 8 := rfl
theorem m16_140 : (140 : Nat) % 16 = 12 := rfl
theorem d16_141 : (141 : Nat) / 16 = 8 := rfl
theorem m16_141 : (141 : Nat) % 16 = 13 := rfl
theorem d16_142 : (142 : Nat) / 16 = 8 := rfl
theorem m16_142 : (142 : Nat) % 16 = 14 := rfl
theorem d16_143 : (143 : Nat) / 16 = 8 := rfl
theorem m16_143 : (143 : Nat) % 16 = 15 := rfl
theorem d16_144 : (144 : Nat) / 16 = 9 := rfl
theorem m16_144 : (144 : Nat) % 16 = 0 := rfl
theorem d16_145 : (145 : Nat) / 16 = 9 := rfl
theorem m16_145 : (145 : Nat) % 16 = 1 := rfl
theorem d16_146 : (146 : Nat) / 16 = 9 := rfl
theorem m16_146 : (146 : Nat) % 16 = 2 := rfl
theorem d16_147 : (147 : Nat) / 16 = 9 := rfl
theorem m16_147 : (147 : Nat) % 16 = 3 := rfl
theorem d16_148 : (148 : Nat) / 16 = 9 := rfl
theorem m16_148 : (148 : Nat) % 16 = 4 := rfl
theorem d16_149 : (149 : Nat) / 16 = 9 := rfl
theorem m16_149 : (149 : Nat) % 16 = 5 := rfl
theorem d16_150 : (150 : Nat) / 16 = 9 := rfl
theorem m16_150 : (150 : Nat) % 16 = 6 := rfl
theorem d16_151 : (151 : Nat) / 16 = 9 := rfl
theorem m16_151 : (151 : Nat) % 16 = 7 := rfl
theorem d16_152 : (152 : Nat) / 16 = 9 := rfl
theorem m16_152 : (152 : Nat) % 16 = 8 := rfl
theorem d16_153 : (153 : Nat) / 16 = 9 := rfl
theorem m16_153 : (153 : Nat) % 16 = 9 := rfl
theorem d16_154 : (154 : Nat) / 16 = 9 := rfl
theorem m16_154 : (154 : Nat) % 16 = 10 := rfl
theorem d16_155 : (155 : Nat) / 16 = 9 := rfl
theorem m16_155 : (155 : Nat) % 16 = 11 := rfl
theorem d16_156 : (156 : Nat) / 16 = 9 := rfl
theorem m16_156 : (156 : Nat) % 16 = 12 := rfl
theorem d16_157 : (157 : Nat) / 16 = 9 := rfl
theorem m16_157 : (157 : Nat) % 16 = 13 := rfl
theorem d16_158 : (158 : Nat) / 16 = 9 := rfl
theorem m16_158 : (158 : Nat) % 16 = 14 := rfl
theorem d16_159 : (159 : Nat) / 16 = 9 := rfl
theorem m16_159 : (159 : Nat) % 16 = 15 := rfl
theorem d16_160 : (160 : Nat) / 16 = 10 := rfl
theorem m16_160 : (160 : Nat) % 16 = 0 := rfl
theorem d16_161 : (161 : Nat) / 16 = 10 := rfl
theorem m16_161 : (161 : Nat) % 16 = 1 := rfl
theorem d16_162 : (162 : Nat) / 16 = 10 := rfl
theorem m16_162 : (162 : Nat) % 16 = 2 := rfl
theorem d16_163 : (163 : Nat) / 16 = 10 := rfl
theorem m16_163 : (163 : Nat) % 16 = 3 := rfl
theorem d16_164 : (164 : Nat) / 16 = 10 := rfl
theorem m16_164 : (164 : Nat) % 16 = 4 := rfl
theorem d16_165 : (165 : Nat) / 16 = 10 := rfl
theorem m16_165 : (165 : Nat) % 16 = 5 := rfl
theorem d16_166 : (166 : Nat) / 16 = 10 := rfl
theorem m16_166 : (166 : Nat) % 16 = 6 := rfl
theorem d16_167 : (167 : Nat) / 16 = 10 := rfl
theorem m16_167 : (167 : Nat) % 16 = 7 := rfl
theorem d16_168 : (168 : Nat) / 16 = 10 := rfl
theorem m16_168 : (168 : Nat) % 16 = 8 := rfl
theorem d16_169 : (169 : Nat) / 16 = 10 := rfl
theorem m16_169 : (169 : Nat) % 16 = 9 := rfl
theorem d16_170 : (170 : Nat) / 16 = 10 := rfl
theorem m16_170 : (170 : Nat) % 16 = 10 := rfl
theorem d16_171 : (171 : Nat) / 16 = 10 := rfl
theorem m16_171 : (171 : Nat) % 16 = 11 := rfl
theorem d16_172 : (172 : Nat) / 16 = 10 := rfl
theorem m16_172 : (172 : Nat) % 16 = 12 := rfl
theorem d16_173 : (173 : Nat) / 16 = 10 := rfl
theorem m16_173 : (173 : Nat) % 16 = 13 := rfl
theorem d16_174 : (174 : Nat) / 16 = 10 := rfl
theorem m16_174 : (174 : Nat) % 16 = 14 := rfl
theorem d16_175 : (175 : Nat) / 16 = 10 := rfl
theorem m16_175 : (175 : Nat) % 16 = 15 := rfl
theorem d16_176 : (176 : Nat) / 16 = 11 := rfl
theorem m16_176 : (176 : Nat) % 16 = 0 := rfl
theorem d16_177 : (177 : Nat) / 16 = 11 := rfl
theorem m16_177 : (177 : Nat) % 16 = 1 := rfl
theorem d16_178 : (178 : Nat) / 16 = 11 := rfl
theorem m16_178 : (178 : Nat) % 16 = 2 := rfl
theorem d16_179 : (179 : Nat) / 16 = 11 := rfl
theorem m16_179 : (179 : Nat) % 16 = 3 := rfl
theorem d16_180 : (180 : Nat) / 16 = 11 := rfl
theorem m16_180 : (180 : Nat) % 16 = 4 := rfl
theorem d16_181 : (181 : Nat) / 16 = 11 := rfl
theorem m16_181 : (181 : Nat) % 16 = 5 := rfl
theorem d16_182 : (182 : Nat) / 16 = 11 := rfl
theorem m16_182 : (182 : Nat) % 16 = 6 := rfl
theorem d16_183 : (183 : Nat) / 16 = 11 := rfl
theorem m16_183 : (183 : Nat) % 16 = 7 := rfl
theorem d16_184 : (184 : Nat) / 16 = 11 := rfl
theorem m16_184 : (184 : Nat) % 16 = 8 := rfl
theorem d16_185 : (185 : Nat) / 16 = 11 := rfl
theorem m16_185 : (185 : Nat) % 16 = 9 := rfl
theorem d16_186 : (186 : Nat) / 16 = 11 := rfl
theorem m16_186 : (186 : Nat) % 16 = 10 := rfl
theorem d16_187 : (187 : Nat) / 16 = 11 := rfl
theorem m16_187 : (187 : Nat) % 16 = 11 := rfl
theorem d16_188 : (188 : Nat) / 16 = 11 := rfl
theorem m16_188 : (188 : Nat) % 16 = 12 := rfl
theorem d16_189 : (189 : Nat) / 16 = 11 := rfl
theorem m16_189 : (189 : Nat) % 16 = 13 := rfl
theorem d16_190 : (190 : Nat) / 16 = 11 := rfl
theorem m16_190 : (190 : Nat) % 16 = 14 := rfl
theorem d16_191 : (191 : Nat) / 16 = 11 := rfl
theorem m16_191 : (191 : Nat) % 16 = 15 := rfl
theorem d16_192 : (192 : Nat) / 16 = 12 := rfl
theorem m16_192 : (192 : Nat) % 16 = 0 := rfl
theorem d16_193 : (193 : Nat) / 16 = 12 := rfl
theorem m16_193 : (193 : Nat) % 16 = 1 := rfl
theorem d16_194 : (194 : Nat) / 16 = 12 := rfl
theorem m16_194 : (194 : Nat) % 16 = 2 := rfl
theorem d16_195 : (195 : Nat) / 16 = 12 := rfl
theorem m16_195 : (195 : Nat) % 16 = 3 := rfl
theorem d16_196 : (196 : Nat) / 16 = 12 := rfl
theorem m16_196 : (196 : Nat) % 16 = 4 := rfl
theorem d16_197 : (197 : Nat) / 16 = 12 := rfl
theorem m16_197 : (197 : Nat) % 16 = 5 := rfl
theorem d16_198 : (198 : Nat) / 16 = 12 := rfl
theorem m16_198 : (198 : Nat) % 16 = 6 := rfl
theorem d16_199 : (199 : Nat) / 16 = 12 := rfl
theorem m16_199 : (199 : Nat) % 16 = 7 := rfl
attribute [go_sem] d16_0 m16_0 d16_1 m16_1 d16_2 m16_2 d16_3 m16_3 d16_4 m16_4 d16_5 m16_5 d16_6 m16_6 d16_7 m16_7 d16_8 m16_8 d16_9 m16_9 d16_10 m16_10 d16_11 m16_11 d16_12 m16_12 d16_13 m16_13 d16_14 m16_14 d16_15 m16_15 d16_16 m16_16 d16_17 m16_17 d16_18 m16_18 d16_19 m16_19 d16_20 m16_20 d16_21 m16_21 d16_22 m16_22 d16_23 m16_23 d16_24 m16_24 d16_25 m16_25 d16_26 m16_26 d16_27 m16_27 d16_28 m16_28 d16_29 m16_29 d16_30 m16_30 d16_31 m16_31 d16_32 m16_32 d16_33 m16_33 d16_34 m16_34 d16_35 m16_35 d16_36 m16_36 d16_37 m16_37 d16_38 m16_38 d16_39 m16_39 d16_40 m16_40 d16_41 m16_41 d16_42 m16_42 d16_43 m16_43 d16_44 m16_44 d16_45 m16_45 d16_46 m16_46 d16_47 m16_47 d16_48 m16_48 d16_49 m16_49 d16_50 m16_50 d16_51 m16_51 d16_52 m16_52 d16_53 m16_53 d16_54 m16_54 d16_55 m16_55 d16_56 m16_56 d16_57 m16_57 d16_58 m16_58 d16_59 m16_59
attribute [go_sem] d16_60 m16_60 d16_61 m16_61 d16_62 m16_62 d16_63 m16_63 d16_64 m16_64 d16_65 m16_65 d16_66 m16_66 d16_67 m16_67 d16_68 m16_68 d16_69 m16_69 d16_70 m16_70 d16_71 m16_71 d16_72 m16_72 d16_73 m16_73 d16_74 m16_74 d16_75 m16_75 d16_76 m16_76 d16_77 m16_77 d16_78 m16_78 d16_79 m16_79 d16_80 m16_80 d16_81 m16_81 d16_82 m16_82 d16_83 m16_83 d16_84 m16_84 d16_85 m16_85 d16_86 m16_86 d16_87 m16_87 d16_88 m16_88 d16_89 m16_89 d16_90 m16_90 d16_91 m16_91 d16_92 m16_92 d16_93 m16_93 d16_94 m16_94 d16_95 m16_95 d16_96 m16_96 d16_97 m16_97 d16_98 m16_98 d16_99 m16_99 d16_100 m16_100 d16_101 m16_101 d16_102 m16_102 d16_103 m16_103 d16_104 m16_104 d16_105 m16_105 d16_106 m16_106 d16_107 m16_107 d16_108 m16_108 d16_109 m16_109 d16_110 m16_110 d16_111 m16_111 d16_112 m16_112 d16_113 m16_113 d16_114 m16_114 d16_115 m16_115 d16_116 m16_116 d16_117 m16_117 d16_118 m16_118 d16_119 m16_119
attribute [go_sem] d16_120 m16_120 d16_121 m16_121 d16_122 m16_122 d16_123 m16_123 d16_124 m16_124 d16_125 m16_125 d16_126 m16_126 d16_127 m16_127 d16_128 m16_128 d16_129 m16_129 d16_130 m16_130 d16_131 m16_131 d16_132 m16_132 d16_133 m16_133 d16_134 m16_134 d16_135 m16_135 d16_136 m16_136 d16_137 m16_137 d16_138 m16_138 d16_139 m16_139 d16_140 m16_140 d16_141 m16_141 d16_142 m16_142 d16_143 m16_143 d16_144 m16_144 d16_145 m16_145 d16_146 m16_146 d16_147 m16_147 d16_148 m16_148 d16_149 m16_149 d16_150 m16_150 d16_151 m16_151 d16_152 m16_152 d16_153 m16_153 d16_154 m16_154 d16_155 m16_155 d16_156 m16_156 d16_157 m16_157 d16_158 m16_158 d16_159 m16_159 d16_160 m16_160 d16_161 m16_161 d16_162 m16_162 d16_163 m16_163 d16_164 m16_164 d16_165 m16_165 d16_166 m16_166 d16_167 m16_167 d16_168 m16_168 d16_169 m16_169 d16_170 m16_170 d16_171 m16_171 d16_172 m16_172 d16_173 m16_173 d16_174 m16_174 d16_175 m16_175 d16_176 m16_176 d16_177 m16_177 d16_178 m16_178 d16_179 m16_179
attribute [go_sem] d16_180 m16_180 d16_181 m16_181 d16_182 m16_182 d16_183 m16_183 d16_184 m16_184 d16_185 m16_185 d16_186 m16_186 d16_187 m16_187 d16_188 m16_188 d16_189 m16_189 d16_190 m16_190 d16_191 m16_191 d16_192 m16_192 d16_193 m16_193 d16_194 m16_194 d16_195 m16_195 d16_196 m16_196 d16_197 m16_197 d16_198 m16_198 d16_199 m16_199
end
section
open Go.RowKit

def opTmps (op : Op) : List Tmp := op.operands.toList.filterMap fun | .tmp t => some t | _ => none
def looks (r : Array Oper) (o : Oper) : List Tmp :=
 opTmps o.op ++ (match o.guard with
  | some (g, _) => ((r[g]?).bind (·.dst)).toList
  | none => [])
def clsOp (P : Program) (op : Op) : Nat :=
 match op with
 | .convert s d _ => match tcv P s d with
  | some (.int _) | some .str => 0
  | some (.s2b _) => 2
  | some .b2s => 1
  | none => 4
 | .move _ | .assign _ | .pick .. | .build .. | .nilCheck _ | .binOp .. | .unOp .. | .fieldAddr .. | .index .. | .extract .. => 0
 | .call ⟨.builtin .len, _, _⟩ | .call ⟨.builtin .min, _, _⟩ | .call ⟨.builtin .max, _, _⟩ => 0
 | .load .. | .indexAddr .. | .slice .. => 1
 | .alloc _ | .box .. | .buildSlice .. | .makeSlice .. => 2
 | .call ⟨.value _, _, _⟩ => 3
 | _ => 4
def cls (P : Program) (o : Oper) : Nat := clsOp P o.op
def optNe (a b : Option Tmp) : Bool :=
 match a, b with
 | some x, some y => x != y
 | _, _ => true
def notIn (a : Option Tmp) (l : List Tmp) : Bool :=
 match a with
 | some x => !l.contains x
 | none => true
def indepB (P : Program) (r : Array Oper) (i j : Oper) : Bool :=
 optNe i.dst j.dst && notIn i.dst (looks r j) && notIn j.dst (looks r i) && (cls P i == 0 && cls P j != 5 || cls P i == 1 && cls P j != 4)

theorem Slots.put_comm (s : Slots) (a b : Nat) (v u : Option AV) (h : a ≠ b) : (s.put a v).put b u = (s.put b u).put a v := by
 unfold Slots.put
 by_cases hc : a / 16 = b / 16
 ·rw [hc]
  by_cases hl : b / 16 < s.length
  ·simp only [List.getD_eq_getElem?_getD, List.getElem?_set_self hl, Option.getD_some, List.set_set]
   congr 1
   exact List.set_comm _ _ (by omega)
  ·have h1 : ∀ x, s.set (b / 16) x = s := fun x => List.set_eq_of_length_le (by omega)
   simp only [h1]
 ·have h1 : ∀ x, (s.set (a / 16) x).getD (b / 16) [] = s.getD (b / 16) [] := fun x => by
   simp only [List.getD_eq_getElem?_getD, List.getElem?_set_ne hc]
  have h2 : ∀ x, (s.set (b / 16) x).getD (a / 16) [] = s.getD (a / 16) [] := fun x => by
   simp only [List.getD_eq_getElem?_getD, List.getElem?_set_ne (Ne.symm hc)]
  rw [h1, h2]
  exact List.set_comm _ _ hc
theorem get_put_ne (s : Slots) (d t : Nat) (v : Option AV) (h : d ≠ t) : (s.put d v).get t = s.get t := by
 rw [Slots.get_put, if_neg (Ne.symm h)]

def Alike (l : List Tmp) (s s' : S) : Prop := ∀ t ∈ l, s.sl.get t = s'.sl.get t
theorem alike_put {l : List Tmp} {s : S} {d : Option Tmp} {v : Option AV} {h : Hp} (hd : notIn d l = true) : Alike l s (s.put d v h) := by
 intro t ht
 cases d with
 | none => rfl
 | some d =>
  have hne : d ≠ t := fun e => by
   subst e
   simp only [notIn, Bool.not_eq_true', List.contains_eq_mem, decide_eq_false_iff_not] at hd
   exact hd ht
  exact (get_put_ne s.sl d t v hne).symm
theorem ev_alike {s s' : S} {x : Operand} (h : ∀ t, x = .tmp t → s.sl.get t = s'.sl.get t) : s.ev x = s'.ev x := by
 cases x with
 | tmp t => exact h t rfl
 | _ => rfl
theorem mem_opTmps {op : Op} {t : Tmp} (h : (.tmp t : Operand) ∈ op.operands.toList) : t ∈ opTmps op := by
 unfold opTmps
 rw [List.mem_filterMap]
 exact ⟨.tmp t, h, rfl⟩
theorem parts_alike {s s' : S} : ∀ {l : List (Nat × Operand)}, (∀ p ∈ l, s.ev p.2 = s'.ev p.2) → s.parts l = s'.parts l
 | [], _ => rfl
 | (i, x) :: l, h => by
  have h1 := h (i, x) (by simp)
  dsimp only at h1
  simp only [S.parts, h1, parts_alike (l := l) (fun p hp => h p (by simp [hp]))]
theorem scals_alike {s s' : S} : ∀ {l : List Operand}, (∀ x ∈ l, s.ev x = s'.ev x) → s.scals l = s'.scals l
 | [], _ => rfl
 | x :: l, h => by
  have h1 := h x (by simp)
  simp only [S.scals, h1, scals_alike (l := l) (fun p hp => h p (by simp [hp]))]
theorem evs_alike {s s' : S} : ∀ {l : List Operand}, (∀ x ∈ l, s.ev x = s'.ev x) → s.evs l = s'.evs l
 | [], _ => rfl
 | x :: l, h => by
  have h1 := h x (by simp)
  simp only [S.evs, h1, evs_alike (l := l) (fun p hp => h p (by simp [hp]))]
theorem optInt_alike {s s' : S} {x : Option Operand} (h : ∀ y, x = some y → s.ev y = s'.ev y) : optInt s x = optInt s' x := by
 cases x with
 | none => rfl
 | some y => simp only [optInt, h y rfl]
theorem aop_alike {P : Program} {s s' : S} {ty : TypeId} {op : Op} (hh : s.hp = s'.hp) (h : Alike (opTmps op) s s') : aop P s ty op = aop P s' ty op := by
 have ev : ∀ x, x ∈ op.operands.toList → s.ev x = s'.ev x := fun x hx => ev_alike fun t ht => h t (mem_opTmps (by rw [← ht]; exact hx))
 have ob : ∀ o, s.obj o = s'.obj o := fun o => by unfold S.obj; rw [hh]
 have vl : ∀ v, s.val v = s'.val v := fun v => by unfold S.val; rw [hh]
 have vc : ∀ v c, s.valc v c = s'.valc v c := fun v c => by unfold S.valc; rw [hh]
 have nw : ∀ o v, s.new o v = s'.new o v := fun o v => by unfold S.new; rw [hh]
 have sl : ∀ v a b, aSlice s v a b = aSlice s' v a b := fun v a b => by
  unfold aSlice
  simp only [vl, vc]
 have ap : ∀ t a x, aAppend P s t a x = aAppend P s' t a x := fun t a x => by
  unfold aAppend
  simp only [vl, ob, hh]
 cases op with
 | move x => simp only [aop, ev x (by simp [Op.operands]), vl]
 | assign x => simp only [aop, ev x (by simp [Op.operands]), vl]
 | pick c x y => simp only [aop, ev c (by simp [Op.operands]), ev x (by simp [Op.operands]), ev y (by simp [Op.operands]), vl]
 | alloc e => simp only [aop, nw, hh]
 | box e x => simp only [aop, ev x (by simp [Op.operands]), nw, hh]
 | build t ps =>
  have := parts_alike (s := s) (s' := s') (l := ps.toList) (fun p hp => ev p.2 (by simp only [Op.operands, List.mem_map]; exact ⟨p, hp, rfl⟩))
  simp only [aop, this, vl]
 | buildSlice t n ps =>
  have := parts_alike (s := s) (s' := s') (l := ps.toList) (fun p hp => ev p.2 (by simp only [Op.operands, List.mem_map]; exact ⟨p, hp, rfl⟩))
  simp only [aop, this, nw, hh]
 | load t x => simp only [aop, ev x (by simp [Op.operands]), ob, vl]
 | store t x y => simp only [aop, ev x (by simp [Op.operands]), ev y (by simp [Op.operands]), ob, hh]
 | nilCheck x => simp only [aop, ev x (by simp [Op.operands]), vl]
 | binOp o t x y u => simp only [aop, ev x (by simp [Op.operands]), ev y (by simp [Op.operands]), vc]
 | unOp o t x => simp only [aop, ev x (by simp [Op.operands]), vl]
 | convert a b x => simp only [aop, ev x (by simp [Op.operands]), vl, vc, ob, hh]
 | makeSlice t x y => simp only [aop, ev x (by simp [Op.operands]), ev y (by simp [Op.operands]), hh]
 | slice t x lo hi mx =>
  cases mx with
  | none =>
   have h1 := optInt_alike (s := s) (s' := s') (x := lo) (fun y hy => ev y (by subst hy; simp [Op.operands]))
   have h2 := optInt_alike (s := s) (s' := s') (x := hi) (fun y hy => ev y (by subst hy; simp [Op.operands]))
   simp only [aop, ev x (by simp [Op.operands]), h1, h2, ob, sl]
  | some m => rfl
 | fieldAddr t x f => simp only [aop, ev x (by simp [Op.operands]), vl]
 | field t x f => simp only [aop, ev x (by simp [Op.operands]), vl]
 | indexAddr t x i => simp only [aop, ev x (by simp [Op.operands]), ev i (by simp [Op.operands]), ob, vc]
 | index t x i => simp only [aop, ev x (by simp [Op.operands]), ev i (by simp [Op.operands]), vc]
 | extract x i => simp only [aop, ev x (by simp [Op.operands]), vl]
 | makeFunc f first caps =>
  cases f with
  | func f =>
   have := scals_alike (s := s) (s' := s') (l := caps.toList) (fun x hx => ev x (by simp [Op.operands]; right; simpa using hx))
   simp only [aop, this, vl]
  | _ => rfl
 | call c =>
  obtain ⟨callee, args, at_⟩ := c
  cases callee with
  | builtin b =>
   have hx : ∀ x, x ∈ args.toList → s.ev x = s'.ev x := fun x hx => ev x (by simp [Op.operands, Call.operands]; simpa using hx)
   cases b with
   | len =>
    simp only [aop]
    split
    ·rename_i x t ha ht
     simp only [hx x (by simp [ha]), vl]
    ·rfl
   | append =>
    simp only [aop]
    split
    ·rename_i x y t t' ha ht
     simp only [hx x (by simp [ha]), hx y (by simp [ha]), ap]
    ·rfl
   | min =>
    simp only [aop]
    split
    ·rename_i x y ha
     simp only [hx x (by simp [ha]), hx y (by simp [ha]), vl]
    ·rfl
   | max =>
    simp only [aop]
    split
    ·rename_i x y ha
     simp only [hx x (by simp [ha]), hx y (by simp [ha]), vl]
    ·rfl
   | _ => rfl
  | _ => rfl
 | _ => rfl
def Hp.ext (s h : Hp) : Prop := ∀ (o : Nat) (ob : AObj), s[o]? = some (some ob) → h[o]? = some (some ob)
theorem obj_ext {s : S} {h : Hp} (hx : Hp.ext s.hp h) {o : Nat} {ob : AObj} (ho : s.obj o = some ob) : S.obj ⟨s.sl, h⟩ o = some ob := by
 have := hx o ob (obj_get ho)
 unfold S.obj
 rw [List.getD_eq_getElem?_getD, this]
 rfl
theorem ev_hp (s : S) (h : Hp) (x : Operand) : S.ev ⟨s.sl, h⟩ x = s.ev x := by cases x <;> rfl
theorem parts_hp (s : S) (h : Hp) : ∀ l, S.parts ⟨s.sl, h⟩ l = s.parts l := fun l => parts_alike fun p _ => ev_hp s h p.2
theorem optInt_hp (s : S) (h : Hp) (x : Option Operand) : optInt ⟨s.sl, h⟩ x = optInt s x := optInt_alike fun y _ => ev_hp s h y
theorem aop_pure {P : Program} {s : S} {ty : TypeId} {op : Op} {x : OpR} (hc : clsOp P op = 0) (h : aop P s ty op = some x) : x.hp = s.hp ∧ ∀ h', aop P ⟨s.sl, h'⟩ ty op = some ⟨x.v, h', x.c⟩ := by
 have e := ev_hp s
 have ep := parts_hp s
 cases op with
 | move y | assign y =>
  simp only [aop, e] at h
  split at h
  ·rename_i v hv
   simp only [Option.some.injEq] at h
   subst h
   exact ⟨rfl, fun h' => by simp only [aop, e, ep, hv]; rfl⟩
  ·cases h
 | pick c y z =>
  simp only [aop, e] at h
  split at h
  ·rename_i hv
   split at h
   ·rename_i v hv2
    simp only [Option.some.injEq] at h
    subst h
    exact ⟨rfl, fun h' => by simp only [aop, e, ep, hv, hv2]; rfl⟩
   ·cases h
  ·rename_i hv
   split at h
   ·rename_i v hv2
    simp only [Option.some.injEq] at h
    subst h
    exact ⟨rfl, fun h' => by simp only [aop, e, ep, hv, hv2]; rfl⟩
   ·cases h
  ·cases h
 | build t ps =>
  simp only [aop, ep] at h
  split at h
  ·rename_i z hz
   split at h
   ·rename_i l hl
    split at h
    ·rename_i cs hcs
     simp only [Option.some.injEq] at h
     subst h
     exact ⟨rfl, fun h' => by simp only [aop, e, ep, hz, hl, hcs]; rfl⟩
    ·cases h
   ·cases h
  ·cases h
 | nilCheck y =>
  simp only [aop, e] at h
  split at h
  ·rename_i hv
   simp only [Option.some.injEq] at h
   subst h
   exact ⟨rfl, fun h' => by simp only [aop, e, ep, hv]; rfl⟩
  ·rename_i hv
   simp only [Option.some.injEq] at h
   subst h
   exact ⟨rfl, fun h' => by simp only [aop, e, ep, hv]; rfl⟩
  ·cases h
 | binOp o t y z u =>
  simp only [aop, e] at h
  split at h
  ·rename_i hy hz
   split at h
   ·rename_i q d hb
    simp only [Option.some.injEq] at h
    subst h
    exact ⟨rfl, fun h' => by simp only [aop, e, ep, hy, hz, hb]; rfl⟩
   ·cases h
  ·rename_i hy hz
   split at h
   ·simp only [Option.some.injEq] at h
    subst h
    exact ⟨rfl, fun h' => by simp only [aop, e, ep, hy, hz]; rfl⟩
   ·simp only [Option.some.injEq] at h
    subst h
    exact ⟨rfl, fun h' => by simp only [aop, e, ep, hy, hz]; rfl⟩
   ·cases h
  ·cases h
 | unOp o t y =>
  simp only [aop, e] at h
  split at h
  ·rename_i hy
   split at h
   ·simp only [Option.some.injEq] at h
    subst h
    exact ⟨rfl, fun h' => by simp only [aop, e, ep, hy]; rfl⟩
   ·cases h
  ·rename_i hy
   split at h
   ·simp only [Option.some.injEq] at h
    subst h
    exact ⟨rfl, fun h' => by simp only [aop, e, ep, hy]; rfl⟩
   ·cases h
  ·cases h
 | convert a b y =>
  simp only [aop, e] at h
  split at h
  ·rename_i ht hy
   simp only [Option.some.injEq] at h
   subst h
   exact ⟨rfl, fun h' => by simp only [aop, e, ht, hy]; rfl⟩
  ·rename_i ht hy
   simp only [Option.some.injEq] at h
   subst h
   exact ⟨rfl, fun h' => by simp only [aop, e, ht, hy]; rfl⟩
  ·rename_i ht hy
   simp only [clsOp, ht] at hc
   cases hc
  ·rename_i ht hy
   simp only [clsOp, ht] at hc
   cases hc
  ·rename_i ht hy
   simp only [clsOp, ht] at hc
   cases hc
  ·cases h
 | fieldAddr t y f =>
  simp only [aop, e] at h
  split at h
  ·rename_i hy hf
   simp only [Option.some.injEq] at h
   subst h
   exact ⟨rfl, fun h' => by simp only [aop, e, ep, hy, hf]; rfl⟩
  ·cases h
 | index t y i =>
  simp only [aop, e] at h
  split at h
  ·rename_i hy hi
   split at h
   ·rename_i ht
    simp only [Option.some.injEq] at h
    subst h
    exact ⟨rfl, fun h' => by simp only [aop, e, ep, hy, hi, ht]; rfl⟩
   ·cases h
  ·cases h
 | extract y i =>
  simp only [aop, e] at h
  split at h
  ·rename_i hy
   split at h
   ·rename_i hl
    simp only [Option.some.injEq] at h
    subst h
    exact ⟨rfl, fun h' => by simp only [aop, e, ep, hy, hl]; rfl⟩
   ·cases h
  ·cases h
 | call c =>
  obtain ⟨callee, args, at_⟩ := c
  cases callee with
  | builtin b =>
   cases b with
   | len =>
    simp only [aop, e] at h
    split at h
    ·rename_i y t ha ht
     split at h
     ·rename_i hy
      split at h
      ·rename_i hs
       simp only [Option.some.injEq] at h
       subst h
       exact ⟨rfl, fun h' => by simp only [aop, e, ep, ha, ht, hy, hs]; rfl⟩
      ·cases h
     ·rename_i hy
      split at h
      ·rename_i hs
       simp only [Option.some.injEq] at h
       subst h
       exact ⟨rfl, fun h' => by simp only [aop, e, ep, ha, ht, hy, hs]; rfl⟩
      ·cases h
     ·rename_i hy
      split at h
      ·rename_i hs
       simp only [Option.some.injEq] at h
       subst h
       exact ⟨rfl, fun h' => by simp only [aop, e, ep, ha, ht, hy, hs]; rfl⟩
      ·cases h
     ·cases h
    ·cases h
   | min =>
    simp only [aop, e] at h
    split at h
    ·rename_i y z ha
     split at h
     ·rename_i hy hz
      simp only [Option.some.injEq] at h
      subst h
      exact ⟨rfl, fun h' => by simp only [aop, e, ep, ha, hy, hz]; rfl⟩
     ·cases h
    ·cases h
   | max =>
    simp only [aop, e] at h
    split at h
    ·rename_i y z ha
     split at h
     ·rename_i hy hz
      simp only [Option.some.injEq] at h
      subst h
      exact ⟨rfl, fun h' => by simp only [aop, e, ep, ha, hy, hz]; rfl⟩
     ·cases h
    ·cases h
   | _ => cases hc
  | _ => cases hc
 | _ => cases hc
theorem aop_read {P : Program} {s : S} {ty : TypeId} {op : Op} {x : OpR} (hc : clsOp P op = 1) (h : aop P s ty op = some x) : x.hp = s.hp ∧ ∀ h', Hp.ext s.hp h' → aop P ⟨s.sl, h'⟩ ty op = some ⟨x.v, h', x.c⟩ := by
 have e := ev_hp s
 cases op with
 | load t y =>
  simp only [aop, e] at h
  split at h
  ·rename_i o k j hy
   split at h
   ·rename_i ob hob
    split at h
    ·rename_i c hk
     split at h
     ·rename_i n ht
      split at h
      ·rename_i hf
       simp only [Option.some.injEq] at h
       subst h
       exact ⟨rfl, fun h' hx => by simp only [aop, e, optInt_hp s, hy, obj_ext hx hob, hk, ht, hf]; rfl⟩
      ·cases h
     ·rename_i ht
      split at h
      ·rename_i z hz
       simp only [Option.some.injEq] at h
       subst h
       exact ⟨rfl, fun h' hx => by simp only [aop, e, optInt_hp s, hy, obj_ext hx hob, hk, ht, hz]; rfl⟩
      ·cases h
     ·cases h
    ·cases h
   ·cases h
  ·cases h
 | convert a b y =>
  simp only [aop, e] at h
  split at h
  ·rename_i ht hy
   simp only [clsOp, ht] at hc
   cases hc
  ·rename_i ht hy
   simp only [clsOp, ht] at hc
   cases hc
  ·rename_i ht hy
   simp only [clsOp, ht] at hc
   cases hc
  ·rename_i ht hy
   split at h
   ·rename_i ob hob
    split at h
    ·rename_i hz
     simp only [Option.some.injEq] at h
     subst h
     exact ⟨rfl, fun h' hx => by simp only [aop, e, ht, hy, obj_ext hx hob, hz, if_true]; rfl⟩
    ·cases h
   ·cases h
  ·rename_i ht hy
   simp only [Option.some.injEq] at h
   subst h
   exact ⟨rfl, fun h' hx => by simp only [aop, e, ht, hy]; rfl⟩
  ·cases h
 | indexAddr t y i =>
  simp only [aop, e] at h
  split at h
  ·rename_i hy hi ht
   split at h
   ·rename_i ob hob
    split at h
    ·rename_i hz
     simp only [Option.some.injEq] at h
     subst h
     exact ⟨rfl, fun h' hx => by simp only [aop, e, optInt_hp s, hy, hi, ht, obj_ext hx hob, hz, if_true]; rfl⟩
    ·cases h
   ·cases h
  ·cases h
 | slice t y lo hi mx =>
  cases mx with
  | some m => cases h
  | none =>
   have eo := optInt_hp s
   simp only [aop, e, eo] at h
   have sl : ∀ {v : AV} {a b : Option Int} {q : OpR}, aSlice s v a b = some q → q.hp = s.hp ∧ ∀ h', aSlice ⟨s.sl, h'⟩ v a b = some ⟨q.v, h', q.c⟩ := by
    intro v a b q hq
    unfold aSlice at hq
    split at hq <;> first
     | (simp only [Option.some.injEq] at hq; subst hq; exact ⟨rfl, fun h' => rfl⟩)
     | cases hq
   split at h
   ·rename_i v a b hy ha hb
    split at h
    ·rename_i l
     split at h
     ·rename_i ht
      obtain ⟨h1, h2⟩ := sl h
      exact ⟨h1, fun h' hx => by simp only [aop, e, optInt_hp s, hy, ha, hb, ht]; exact h2 h'⟩
     ·cases h
    ·rename_i o off len
     split at h
     ·rename_i q sz ob ht hob
      split at h
      ·rename_i hz
       obtain ⟨h1, h2⟩ := sl h
       exact ⟨h1, fun h' hx => by simp only [aop, e, optInt_hp s, hy, ha, hb, ht, obj_ext hx hob, hz, if_true]; exact h2 h'⟩
      ·cases h
     ·cases h
    ·cases h
   ·cases h
 | call c =>
  obtain ⟨callee, args, at_⟩ := c
  cases callee with
  | builtin b => cases b <;> cases hc
  | _ => cases hc
 | _ => cases hc

theorem ext_refl (h : Hp) : Hp.ext h h := fun _ _ h => h
theorem ext_append (h k : Hp) : Hp.ext h (h ++ k) := fun o ob ho => by
 rw [List.getElem?_append_left (List.getElem?_eq_some_iff.1 ho).1]; exact ho
theorem aop_ext {P : Program} {s : S} {ty : TypeId} {op : Op} {x : OpR} (h : aop P s ty op = some x) (hc : clsOp P op ≠ 4) : Hp.ext s.hp x.hp := by
 by_cases h0 : clsOp P op = 0
 ·rw [(aop_pure h0 h).1]; exact ext_refl _
 ·by_cases h1 : clsOp P op = 1
  ·rw [(aop_read h1 h).1]; exact ext_refl _
  ·cases op with
   | alloc e =>
    simp only [aop] at h
    split at h
    ·simp only [Option.some.injEq] at h; subst h; exact ext_append _ _
    ·cases h
   | box e y =>
    simp only [aop] at h
    split at h
    ·split at h
     ·simp only [Option.some.injEq] at h; subst h; exact ext_append _ _
     ·cases h
    ·cases h
   | buildSlice t n ps =>
    simp only [aop] at h
    split at h
    ·split at h
     ·split at h
      ·split at h
       ·split at h
        ·simp only [Option.some.injEq] at h; subst h; exact ext_append _ _
        ·cases h
       ·cases h
      ·cases h
     ·cases h
    ·cases h
   | makeSlice t y z =>
    simp only [aop] at h
    split at h
    ·split at h
     ·split at h
      ·simp only [Option.some.injEq] at h; subst h; exact ext_append _ _
      ·cases h
     ·cases h
    ·cases h
   | convert a b y =>
    simp only [aop] at h
    split at h
    ·rename_i ht hy
     simp only [clsOp, ht] at h0
     exact absurd trivial h0
    ·rename_i ht hy
     simp only [clsOp, ht] at h0
     exact absurd trivial h0
    ·simp only [Option.some.injEq] at h; subst h; exact ext_append _ _
    ·rename_i ht hy
     simp only [clsOp, ht] at h1
     exact absurd trivial h1
    ·rename_i ht hy
     simp only [clsOp, ht] at h1
     exact absurd trivial h1
    ·cases h
   | call c =>
    obtain ⟨callee, args, at_⟩ := c
    cases callee with
    | value f => simp only [aop] at h; cases h
    | builtin b => cases b <;> first | exact absurd rfl h0 | exact absurd rfl hc
    | invoke a b => exact absurd rfl hc
   | move _ => exact absurd rfl h0
   | assign _ => exact absurd rfl h0
   | pick _ _ _ => exact absurd rfl h0
   | build _ _ => exact absurd rfl h0
   | nilCheck _ => exact absurd rfl h0
   | binOp _ _ _ _ _ => exact absurd rfl h0
   | unOp _ _ _ => exact absurd rfl h0
   | fieldAddr _ _ _ => exact absurd rfl h0
   | index _ _ _ => exact absurd rfl h0
   | extract _ _ => exact absurd rfl h0
   | load _ _ => exact absurd rfl h1
   | indexAddr _ _ _ => exact absurd rfl h1
   | slice _ _ _ _ _ => exact absurd rfl h1
   | _ => exact absurd rfl hc

def ActN (P : Program) (o : Oper) (s s' : S) : Prop :=
 (∃ x, aop P s o.type o.op = some x ∧ x.c ∧ s' = s.put o.dst x.v x.hp) ∨
 (∃ (y : Operand) (args : Array Operand) (at_ : Array TypeId) (f : Nat) (caps : List Sc) (avs : List AV) (res : AV) (h' : Hp), o.op = .call ⟨.value y, args, at_⟩ ∧ s.ev y = some (.cl f caps) ∧ s.evs args.toList = some avs ∧
  CallA P f (avs ++ scAll caps) s.hp res h' ∧ Hp.ext s.hp h' ∧ s' = s.put o.dst (some res) h')
def StepN (P : Program) (r : Array Oper) (i : Nat) (s s' : S) : Prop :=
 match r[i]? with
 | none => s' = s
 | some o => match guardOf r s o with
  | some true => ActN P o s s'
  | some false => s' = s.put o.dst (some (.tu [])) s.hp
  | none => False
def RunN (P : Program) (r : Array Oper) : List Nat → S → S → Prop
 | [], s, s' => s' = s
 | i :: l, s, s'' => ∃ s', StepN P r i s s' ∧ RunN P r l s' s''
theorem guard_alike {r : Array Oper} {s s' : S} {o : Oper} (h : Alike (looks r o) s s') : guardOf r s o = guardOf r s' o := by
 unfold guardOf
 split
 ·rfl
 ·rename_i j want hg
  split
  ·rename_i oj hj
   split
   ·rename_i d hd
    have := h d (by unfold looks; rw [hg]; simp [hj, hd])
    rw [this]
   ·rfl
  ·rfl
theorem alike_ops {r : Array Oper} {s s' : S} {o : Oper} (h : Alike (looks r o) s s') : Alike (opTmps o.op) s s' := fun t ht => h t (by unfold looks; exact List.mem_append_left _ ht)
theorem put_put (s : S) {a b : Option Tmp} (v u : Option AV) (h h' : Hp) (hne : optNe a b = true) : (s.put a v h).put b u h' = (s.put b u h').put a v h' := by
 cases a with
 | none => cases b <;> rfl
 | some a => cases b with
  | none => rfl
  | some b =>
   have : a ≠ b := by simpa [optNe] using hne
   simp only [S.put, Slots.put_comm s.sl a b v u this]
theorem put_hp (s : S) (d : Option Tmp) (v : Option AV) (h : Hp) : (s.put d v h).hp = h := by cases d <;> rfl
theorem swap {P : Program} {r : Array Oper} {i j : Nat} {oi oj : Oper} (hi : r[i]? = some oi) (hj : r[j]? = some oj) (hind : indepB P r oi oj = true) {s s1 s2 : S} (h1 : StepN P r i s s1) (h2 : StepN P r j s1 s2) :
  ∃ s1', StepN P r j s s1' ∧ StepN P r i s1' s2 := by
 simp only [indepB, Bool.and_eq_true, Bool.or_eq_true, beq_iff_eq, bne_iff_ne] at hind
 obtain ⟨⟨⟨hne, hij⟩, hji⟩, hcls⟩ := hind
 have hci : cls P oi = 0 ∨ cls P oi = 1 := by rcases hcls with h | h; exact .inl h.1; exact .inr h.1
 unfold StepN at h1 h2
 rw [hi] at h1
 rw [hj] at h2
 dsimp only at h1 h2
 -- what step i does: it puts a value, and leaves the heap
 have key : ∃ v, s1 = s.put oi.dst v s.hp ∧ ∀ (t : S), Alike (looks r oi) s t → (cls P oi = 0 ∨ Hp.ext s.hp t.hp) → StepN P r i t (t.put oi.dst v t.hp) := by
  split at h1
  ·rename_i hg
   rcases h1 with ⟨x, hx, hc, rfl⟩ | ⟨y, args, at_, f, caps, avs, res, h', ho, _⟩
   ·have hx2 : x.hp = s.hp ∧ ∀ t : S, Alike (looks r oi) s t → (cls P oi = 0 ∨ Hp.ext s.hp t.hp) → aop P t oi.type oi.op = some ⟨x.v, t.hp, x.c⟩ := by
     have eqv : ∀ t : S, Alike (looks r oi) s t → aop P t oi.type oi.op = aop P ⟨s.sl, t.hp⟩ oi.type oi.op := fun t ha => (aop_alike (s := ⟨s.sl, t.hp⟩) (s' := t) rfl (fun q hq => alike_ops ha q hq)).symm
     rcases hci with h0 | h0
     ·obtain ⟨e1, e2⟩ := aop_pure h0 hx
      exact ⟨e1, fun t ha _ => by rw [eqv t ha]; exact e2 t.hp⟩
     ·obtain ⟨e1, e2⟩ := aop_read h0 hx
      exact ⟨e1, fun t ha he => by rw [eqv t ha]; exact e2 t.hp (he.resolve_left (by rw [h0]; simp))⟩
    refine ⟨x.v, by rw [hx2.1], fun t ha he => ?_⟩
    unfold StepN
    rw [hi]
    dsimp only
    rw [← guard_alike ha, hg]
    exact .inl ⟨_, hx2.2 t ha he, hc, rfl⟩
   ·exfalso
    have : cls P oi = 3 := by unfold cls; rw [ho]; rfl
    omega
  ·rename_i hg
   refine ⟨some (.tu []), h1, fun t ha _ => ?_⟩
   unfold StepN
   rw [hi]
   dsimp only
   rw [← guard_alike ha, hg]
  ·exact h1.elim
 obtain ⟨v, rfl, hstep⟩ := key
 have hal : Alike (looks r oj) s (s.put oi.dst v s.hp) := alike_put hij
 have hhp : (s.put oi.dst v s.hp).hp = s.hp := put_hp _ _ _ _
 rw [← guard_alike hal] at h2
 -- what step j does
 have fin : ∀ (u : Option AV) (h' : Hp), s2 = (s.put oi.dst v s.hp).put oj.dst u h' → (cls P oi = 0 ∨ Hp.ext s.hp h') → StepN P r j s (s.put oj.dst u h') → ∃ s1', StepN P r j s s1' ∧ StepN P r i s1' s2 := by
  intro u h' he hx hj'
  refine ⟨s.put oj.dst u h', hj', ?_⟩
  have h3 := hstep (s.put oj.dst u h') (alike_put hji) (by rw [put_hp]; exact hx)
  rw [put_hp] at h3
  rw [he, put_put s v u s.hp h' hne]
  exact h3
 split at h2
 ·rename_i hg
  rcases h2 with ⟨x, hx, hc, rfl⟩ | ⟨y, args, at_, f, caps, avs, res, h', ho, hy, ha, hcall, hext, rfl⟩
  ·have hx' : aop P s oj.type oj.op = some x := by rw [aop_alike (s := s) (s' := s.put oi.dst v s.hp) hhp.symm (alike_ops hal)]; exact hx
   refine fin x.v x.hp rfl ?_ ?_
   ·rcases hcls with h0 | h0
    ·exact .inl h0.1
    ·right
     have h4 : cls P oj ≠ 4 := h0.2
     exact aop_ext hx' h4
   ·unfold StepN
    rw [hj]
    dsimp only
    rw [hg]
    exact .inl ⟨x, hx', hc, rfl⟩
  ·have hal' := alike_ops hal
   rw [ho] at hal'
   have e1 : s.ev y = some (.cl f caps) := by
    rw [ev_alike (s := s) (s' := s.put oi.dst v s.hp) (x := y) (fun t ht => hal' t (mem_opTmps (by subst ht; simp [Op.operands, Call.operands])))]
    exact hy
   have e2 : s.evs args.toList = some avs := by
    rw [evs_alike (s := s) (s' := s.put oi.dst v s.hp) (l := args.toList) (fun z hz => ev_alike fun t ht => hal' t (mem_opTmps (by subst ht; simp [Op.operands, Call.operands]; right; simpa using hz)))]
    exact ha
   rw [hhp] at hcall hext
   refine fin (some res) h' rfl (.inr hext) ?_
   unfold StepN
   rw [hj]
   dsimp only
   rw [hg]
   exact .inr ⟨y, args, at_, f, caps, avs, res, h', ho, e1, e2, hcall, hext, rfl⟩
 ·rename_i hg
  refine fin (some (.tu [])) s.hp (by rw [h2, hhp]) (.inr fun o ob h => h) ?_
  unfold StepN
  rw [hj]
  dsimp only
  rw [hg]
 ·exact h2.elim
def indepC (P : Program) (r : Array Oper) (i j : Oper) : Bool :=
 optNe i.dst j.dst && notIn i.dst (looks r j) && notIn j.dst (looks r i) && cls P j == 0
theorem swapC {P : Program} {r : Array Oper} {i j : Nat} {oi oj : Oper} (hi : r[i]? = some oi) (hj : r[j]? = some oj) (hind : indepC P r oi oj = true) {s s1 s2 : S} (h1 : StepN P r i s s1) (h2 : StepN P r j s1 s2) :
  ∃ s1', StepN P r j s s1' ∧ StepN P r i s1' s2 := by
 simp only [indepC, Bool.and_eq_true, beq_iff_eq] at hind
 obtain ⟨⟨⟨hne, hij⟩, hji⟩, hcj⟩ := hind
 unfold StepN at h1 h2
 rw [hi] at h1
 rw [hj] at h2
 dsimp only at h1 h2
 -- what step i does: it puts a value and a heap
 have key : ∃ v hp, s1 = s.put oi.dst v hp ∧ ∀ (t : S), Alike (looks r oi) s t → t.hp = s.hp → StepN P r i t (t.put oi.dst v hp) := by
  split at h1
  ·rename_i hg
   rcases h1 with ⟨x, hx, hc, rfl⟩ | ⟨y, args, at_, f, caps, avs, res, h', ho, hy, ha, hcall, hext, rfl⟩
   ·refine ⟨x.v, x.hp, rfl, fun t ha he => ?_⟩
    unfold StepN
    rw [hi]
    dsimp only
    rw [← guard_alike ha, hg]
    exact .inl ⟨x, by rw [← aop_alike he.symm (alike_ops ha)]; exact hx, hc, rfl⟩
   ·refine ⟨some res, h', rfl, fun t hal he => ?_⟩
    unfold StepN
    rw [hi]
    dsimp only
    rw [← guard_alike hal, hg]
    have hal' := alike_ops hal
    rw [ho] at hal'
    have e1 : t.ev y = some (.cl f caps) := by
     rw [← ev_alike (s := s) (s' := t) (x := y) (fun q hq => hal' q (mem_opTmps (by subst hq; simp [Op.operands, Call.operands])))]
     exact hy
    have e2 : t.evs args.toList = some avs := by
     rw [← evs_alike (s := s) (s' := t) (l := args.toList) (fun z hz => ev_alike fun q hq => hal' q (mem_opTmps (by subst hq; simp [Op.operands, Call.operands]; right; simpa using hz)))]
     exact ha
    exact .inr ⟨y, args, at_, f, caps, avs, res, h', ho, e1, e2, by rw [he]; exact hcall, by rw [he]; exact hext, rfl⟩
  ·rename_i hg
   refine ⟨some (.tu []), s.hp, h1, fun t ha he => ?_⟩
   unfold StepN
   rw [hi]
   dsimp only
   rw [← guard_alike ha, hg]
   dsimp only
   rw [he]
  ·exact h1.elim
 obtain ⟨v, hp, rfl, hstep⟩ := key
 have hal : Alike (looks r oj) s (s.put oi.dst v hp) := alike_put hij
 rw [← guard_alike hal] at h2
 have fin : ∀ (u : Option AV), s2 = (s.put oi.dst v hp).put oj.dst u hp → StepN P r j s (s.put oj.dst u s.hp) → ∃ s1', StepN P r j s s1' ∧ StepN P r i s1' s2 := by
  intro u he hj'
  refine ⟨s.put oj.dst u s.hp, hj', ?_⟩
  have h3 := hstep (s.put oj.dst u s.hp) (alike_put hji) (put_hp _ _ _ _)
  rw [he, put_put s v u hp hp hne]
  have e : ∀ (a b : S) (d : Option Tmp) (x : Option AV) (h : Hp), a.sl = b.sl → a.put d x h = b.put d x h := by
   intro a b d x h hab
   cases d <;> simp [S.put, hab]
  rw [e (s.put oj.dst u hp) (s.put oj.dst u s.hp) oi.dst v hp (by cases oj.dst <;> rfl)]
  exact h3
 split at h2
 ·rename_i hg
  rcases h2 with ⟨x, hx, hc, rfl⟩ | ⟨y, args, at_, f, caps, avs, res, h', ho, _⟩
  ·have hx1 : aop P ⟨s.sl, hp⟩ oj.type oj.op = some x := by
    rw [aop_alike (s := ⟨s.sl, hp⟩) (s' := s.put oi.dst v hp) (by rw [put_hp]) (fun q hq => alike_ops hal q hq)]
    exact hx
   obtain ⟨e1, e2⟩ := aop_pure hcj hx1
   have e3 := e2 s.hp
   refine fin x.v (by rw [e1]) ?_
   unfold StepN
   rw [hj]
   dsimp only
   rw [hg]
   exact .inl ⟨_, e3, hc, rfl⟩
  ·exfalso
   have : cls P oj = 3 := by unfold cls; rw [ho]; rfl
   omega
 ·rename_i hg
  refine fin (some (.tu [])) (by rw [h2, put_hp]) ?_
  unfold StepN
  rw [hj]
  dsimp only
  rw [hg]
 ·exact h2.elim
end
section
open Go.RowKit

theorem stepN_wp {P : Program} {E : Entry} {r : Array Oper} {i : Nat} {s s1 : S} {β : Be} {a : Act} {w : World} {Q : Exit → Act → World → Prop} {K : Act → World → Prop} (h : StepN P r i s s1) (hs : Sim E β s a w) (hK : ∀ β' a' w', Sim E β' s1 a' w' → K a' w') : wpOp P r Q i K a w := by
 unfold wpOp
 unfold StepN at h
 split at h
 ·rename_i hi
  subst h
  rw [hi]
  exact hK β a w hs
 ·rename_i o ho
  rw [ho]
  dsimp only
  split at h
  ·rename_i hg
   rw [if_pos (guard_R hs.sl hg)]
   refine .inl ?_
   unfold Oper.wp
   rcases h with ⟨x, hx, hc, rfl⟩ | ⟨y, args, at_, f, caps, avs, res, h', hop, hy, ha, ⟨⟨fn, hfn, hname, hbody⟩, hcall⟩, _, rfl⟩
   ·obtain ⟨β', w', hst, hh, hx'⟩ := aop_sound hs.hp hs.sl hx hc
    rcases hx' with ⟨v, av, hrun, hv, hr⟩ | ⟨hrun, hv⟩
    ·rw [hrun]
     rw [hv] at hK
     exact hK β' _ w' (sim_put hs hst hh o.dst hr)
    ·rw [hrun]
     rw [hv] at hK
     exact hK β' _ w' (sim_putNone hs hst hh o.dst undef)
   ·obtain ⟨cvs, hxe, hcl⟩ : AVR β (.cl f caps) (a.eval y) := ev_R hs.sl hy
    have hav := evs_R hs.sl ha
    have hvs : L2 (AVR β) (avs ++ scAll caps) (args.toList.map a.eval ++ cvs) := hav.append (scAll_R hcl)
    have hrun : (execOp a.eval o).run P w = .ok (.enter f (args.toList.map a.eval ++ cvs).toArray) w := by
     unfold execOp
     rw [hop]
     have e1 : args.map a.eval = (args.toList.map a.eval).toArray := by apply Array.ext'; simp
     have hname' : ¬ fn.name = "runtime.NumGoroutine" := by simpa using hname
     simp only [resolve, hxe, Deferred.ofValue, invoke, callFunc, Sem.run_bind, run_program, Sem.run_pure, Result.andThen_ok, hfn, e1]
     simp [hname', hbody]
    rw [hrun, Oper.upon_enter]
    refine (hcall β w _ hs.hp hvs).mono fun e w' ⟨β', v, he, hr, hh, hst⟩ => ?_
    subst he
    exact hK β' _ w' (sim_put hs hst hh o.dst hr)
  ·rename_i hg
   rw [guard_R hs.sl hg]
   subst h
   exact hK β _ w (sim_put hs (StepR.refl β s.hp w hs.hp.len) hs.hp o.dst ⟨[], rfl, trivial⟩)
  ·exact h.elim

def clo1 (T : List Nat) (o : Oper) : Nat := o.after.toList.foldl (fun m e => if Region.binds .any e then m ||| (1 <<< e.on) ||| T.getD e.on 0 else m) 0
def cloT : List Oper → List Nat → List Nat
 | [], T => T
 | o :: l, T => cloT l (T ++ [clo1 T o])
def clo (r : Array Oper) : List Nat := cloT r.toList []
def backB (r : Array Oper) : Bool := (List.range r.size).all fun i => match r[i]? with
 | some o => o.after.toList.all fun e => !Region.binds .any e || decide (e.on < i)
 | none => true
theorem fold_bit (T : List Nat) (p : Nat) : ∀ (l : List Edge) (m : Nat), (l.foldl (fun m e => if Region.binds .any e then m ||| (1 <<< e.on) ||| T.getD e.on 0 else m) m).testBit p = true ↔
  m.testBit p = true ∨ ∃ e ∈ l, Region.binds .any e = true ∧ (e.on = p ∨ (T.getD e.on 0).testBit p = true)
 | [], m => by simp
 | e :: l, m => by
  rw [List.foldl_cons, fold_bit T p l]
  cases hb : Region.binds .any e
  ·simp [hb]
  ·simp only [if_true, Nat.testBit_or, Bool.or_eq_true, Nat.one_shiftLeft, Nat.testBit_two_pow, decide_eq_true_eq, List.mem_cons, exists_eq_or_imp, hb, true_and]
   constructor
   ·rintro (((h | h) | h) | h)
    ·exact .inl h
    ·exact .inr (.inl (.inl h))
    ·exact .inr (.inl (.inr h))
    ·exact .inr (.inr h)
   ·rintro (h | (h | h) | h)
    ·exact .inl (.inl (.inl h))
    ·exact .inl (.inl (.inr h))
    ·exact .inl (.inr h)
    ·exact .inr h
theorem cloT_old : ∀ (l : List Oper) (T : List Nat) (i : Nat), i < T.length → (cloT l T)[i]? = T[i]?
 | [], T, i, _ => rfl
 | o :: l, T, i, h => by
  rw [cloT, cloT_old l _ i (by simp; omega), List.getElem?_append_left h]
theorem cloT_new : ∀ (l : List Oper) (T : List Nat) (j : Nat) (o : Oper), l[j]? = some o → ∃ T', (cloT l T)[T.length + j]? = some (clo1 T' o) ∧ T'.length = T.length + j ∧ ∀ k, k < T.length + j → T'[k]? = (cloT l T)[k]?
 | [], T, j, o, h => by simp at h
 | o' :: l, T, 0, o, h => by
  simp at h
  subst h
  refine ⟨T, ?_, by simp, fun k hk => ?_⟩
  ·rw [cloT, cloT_old l _ _ (by simp)]
   simp
  ·rw [cloT, cloT_old l _ _ (by simp; omega), List.getElem?_append_left (by omega)]
 | o' :: l, T, j + 1, o, h => by
  obtain ⟨T', h1, h2, h3⟩ := cloT_new l (T ++ [clo1 T o']) j o (by simpa using h)
  simp only [List.length_append, List.length_cons, List.length_nil] at h1 h2 h3
  refine ⟨T', ?_, by omega, fun k hk => ?_⟩
  ·rw [cloT, show T.length + (j + 1) = T.length + (0 + 1) + j from by omega]; exact h1
  ·rw [cloT]; exact h3 k (by omega)
theorem clo_spec {r : Array Oper} {i : Nat} {o : Oper} (ho : r[i]? = some o) (p : Nat) : ((clo r).getD i 0).testBit p = true ↔ ∃ e ∈ o.after.toList, Region.binds .any e = true ∧ (e.on = p ∨ (e.on < i ∧ ((clo r).getD e.on 0).testBit p = true)) := by
 obtain ⟨T', h1, h2, h3⟩ := cloT_new r.toList [] i o (by simpa using ho)
 simp only [List.length_nil, Nat.zero_add] at h1 h2 h3
 have e1 : (clo r).getD i 0 = clo1 T' o := by unfold clo; rw [List.getD_eq_getElem?_getD, h1]; rfl
 rw [e1]
 unfold clo1
 rw [fold_bit]
 simp only [Nat.zero_testBit, Bool.false_eq_true, false_or]
 constructor
 ·rintro ⟨e, he, hb, h⟩
  refine ⟨e, he, hb, h.imp id fun h => ?_⟩
  rcases Nat.lt_or_ge e.on i with hlt | hge
  ·refine ⟨hlt, ?_⟩
   rw [List.getD_eq_getElem?_getD, h3 _ hlt] at h
   rw [List.getD_eq_getElem?_getD]
   exact h
  ·rw [List.getD_eq_getElem?_getD, List.getElem?_eq_none (by omega)] at h
   simp at h
 ·rintro ⟨e, he, hb, h⟩
  refine ⟨e, he, hb, h.imp id fun ⟨hlt, h⟩ => ?_⟩
  rw [List.getD_eq_getElem?_getD, h3 _ hlt]
  rw [List.getD_eq_getElem?_getD] at h
  exact h
def Closed (r : Array Oper) (listed : Array Bool) : Prop := ∀ (i : Nat) (o : Oper), r[i]? = some o → listed.getD i false = true → ∀ e ∈ o.after.toList, Region.binds .any e = true → listed.getD e.on false = true
theorem clo_listed {r : Array Oper} {listed : Array Bool} (hc : Closed r listed) : ∀ (i : Nat) (o : Oper), r[i]? = some o → (∀ e ∈ o.after.toList, Region.binds .any e = true → listed.getD e.on false = true) → ∀ p, ((clo r).getD i 0).testBit p = true → listed.getD p false = true := by
 intro i
 induction i using Nat.strongRecOn with
 | _ i ih =>
  intro o ho ha p hp
  obtain ⟨e, he, hb, h⟩ := (clo_spec ho p).1 hp
  rcases h with rfl | ⟨hlt, h⟩
  ·exact ha e he hb
  ·have hl := ha e he hb
   cases hr : r[e.on]? with
   | none =>
    exfalso
    have hn : (clo r)[e.on]? = none := by
     rw [Array.getElem?_eq_none_iff] at hr
     have hlt2 := (Array.getElem?_eq_some_iff.1 ho).1
     omega
    rw [List.getD_eq_getElem?_getD, hn] at h
    simp at h
   | some oj => exact ih e.on hlt oj hr (hc e.on oj hr hl) p h

def before : List Nat → Nat → Nat → Bool
 | [], p, q => decide (p < q)
 | i :: l, p, q => if i = p then true else if i = q then false else before l p q
theorem before_total {p q : Nat} (hne : p ≠ q) : ∀ {l : List Nat}, before l p q = true ∨ before l q p = true
 | [] => by simp only [before, decide_eq_true_eq]; omega
 | i :: l => by
  simp only [before]
  by_cases h1 : i = p
  ·exact .inl (by rw [if_pos h1])
  ·by_cases h2 : i = q
   ·exact .inr (by rw [if_pos h2])
   ·rw [if_neg h1, if_neg h2, if_neg h2, if_neg h1]
    exact before_total hne
def okP (P : Program) (r : Array Oper) (T : List Nat) (ex : List (Nat × Nat)) (p q : Nat) : Bool :=
 p != q && !(T.getD p 0).testBit q &&
 ((T.getD q 0).testBit p || ex.contains (p, q) || match r[p]?, r[q]? with
  | some x, some y => indepB P r x y || indepC P r x y
  | _, _ => false)
def okL (P : Program) (r : Array Oper) (T : List Nat) (ex : List (Nat × Nat)) : List Nat → Bool
 | [] => true
 | p :: l => l.all (okP P r T ex p) && okL P r T ex l
theorem okL_drop {P : Program} {r : Array Oper} {T : List Nat} {ex : List (Nat × Nat)} {i : Nat} : ∀ {l m : List Nat}, okL P r T ex (l ++ i :: m) = true → okL P r T ex (l ++ m) = true
 | [], m, h => by simp only [List.nil_append, okL, Bool.and_eq_true] at h ⊢; exact h.2
 | p :: l, m, h => by
  simp only [List.cons_append, okL, Bool.and_eq_true, List.all_eq_true] at h ⊢
  refine ⟨fun q hq => h.1 q ?_, okL_drop h.2⟩
  simp only [List.mem_append, List.mem_cons] at hq ⊢
  exact hq.imp id .inr
theorem okL_at {P : Program} {r : Array Oper} {T : List Nat} {ex : List (Nat × Nat)} {i p : Nat} : ∀ {l m : List Nat}, okL P r T ex (l ++ i :: m) = true → p ∈ l → okP P r T ex p i = true
 | [], m, _, h => by simp at h
 | q :: l, m, h, hp => by
  simp only [List.cons_append, okL, Bool.and_eq_true, List.all_eq_true] at h
  rcases List.mem_cons.1 hp with rfl | hp
  ·exact h.1 i (by simp)
  ·exact okL_at h.2 hp
theorem okL_head {P : Program} {r : Array Oper} {T : List Nat} {ex : List (Nat × Nat)} {i p : Nat} {l : List Nat} (h : okL P r T ex (i :: l) = true) (hp : p ∈ l) : okP P r T ex i p = true := by
 simp only [okL, Bool.and_eq_true, List.all_eq_true] at h
 exact h.1 p hp
theorem okL_nodup {P : Program} {r : Array Oper} {T : List Nat} {ex : List (Nat × Nat)} : ∀ {l : List Nat}, okL P r T ex l = true → l.Nodup
 | [], _ => List.nodup_nil
 | p :: l, h => by
  refine List.nodup_cons.2 ⟨fun hp => ?_, okL_nodup (by simp only [okL, Bool.and_eq_true] at h; exact h.2)⟩
  have := okL_head h hp
  simp [okP] at this
theorem run_front {P : Program} {r : Array Oper} {i : Nat} : ∀ {l m : List Nat} {s s' : S}, (∀ p ∈ l, ∃ x y, r[p]? = some x ∧ r[i]? = some y ∧ (indepB P r x y || indepC P r x y) = true) → RunN P r (l ++ i :: m) s s' → RunN P r (i :: (l ++ m)) s s'
 | [], m, s, s', _, h => h
 | p :: l, m, s, s', hl, h => by
  obtain ⟨s1, h1, h2⟩ := h
  obtain ⟨s2, h3, h4⟩ := run_front (fun q hq => hl q (List.mem_cons_of_mem _ hq)) h2
  obtain ⟨x, y, hx, hy, hind⟩ := hl p (by simp)
  rcases (Bool.or_eq_true _ _).mp hind with hind | hind
  ·obtain ⟨s1', h5, h6⟩ := swap hx hy hind h1 h3
   exact ⟨s1', h5, s2, h6, h4⟩
  ·obtain ⟨s1', h5, h6⟩ := swapC hx hy hind h1 h3
   exact ⟨s1', h5, s2, h6, h4⟩
def Drawn (r : Array Oper) : Nat → Array Bool → List Nat → Prop
 | fuel, listed, [] => fuel = 0 ∨ Region.ready .any r listed = []
 | 0, _, _ :: _ => False
 | fuel + 1, listed, i :: τ => i ∈ Region.ready .any r listed ∧ Drawn r fuel (listed.setIfInBounds i true) τ
theorem drawn_go {r : Array Oper} : ∀ (fuel t : Nat) (listed : Array Bool), Drawn r fuel listed (Region.linearise.go .any r fuel t listed [])
 | 0, t, listed => by simp [Region.linearise.go, Drawn]
 | fuel + 1, t, listed => by
  simp only [Region.linearise.go]
  change Drawn r (fuel + 1) listed (match (Region.ready .any r listed)[t % (Region.ready .any r listed).length]? with
   | some i => Region.linearise.go .any r fuel (t / (Region.ready .any r listed).length) (listed.setIfInBounds i true) [i]
   | none => [].reverse)
  cases hi : (Region.ready .any r listed)[t % (Region.ready .any r listed).length]? with
  | none =>
   have hnil : Region.ready .any r listed = [] := by
    cases hr : Region.ready .any r listed with
    | nil => rfl
    | cons x xs =>
     rw [hr] at hi
     have hlt : t % (x :: xs).length < (x :: xs).length := Nat.mod_lt _ (by simp)
     simp at hi
     simp at hlt
     omega
   exact .inr hnil
  | some i =>
   simp only []
   rw [linearise_go_acc, List.reverse_singleton, List.singleton_append]
   exact ⟨List.mem_of_getElem? hi, drawn_go fuel _ _⟩
theorem ready_iff {r : Array Oper} {listed : Array Bool} {i : Nat} : i ∈ Region.ready .any r listed ↔ ∃ o, r[i]? = some o ∧ listed.getD i true = false ∧ ∀ e ∈ o.after.toList, Region.binds .any e = true → listed.getD e.on false = true := by
 unfold Region.ready
 simp only [List.mem_filter, List.mem_range, Bool.and_eq_true, Bool.not_eq_true']
 constructor
 ·rintro ⟨hlt, h1, h2⟩
  refine ⟨r[i], Array.getElem?_eq_getElem hlt, h1, fun e he hb => ?_⟩
  rw [Array.getElem?_eq_getElem hlt] at h2
  simp only [Option.map_some, Option.getD_some, Array.all_eq_true_iff_forall_mem, Bool.or_eq_true, Bool.not_eq_true'] at h2
  rcases h2 e (by simpa using he) with h | h
  ·rw [hb] at h; cases h
  ·exact h
 ·rintro ⟨o, ho, h1, h2⟩
  refine ⟨(Array.getElem?_eq_some_iff.1 ho).1, h1, ?_⟩
  rw [ho]
  simp only [Option.map_some, Option.getD_some, Array.all_eq_true_iff_forall_mem, Bool.or_eq_true, Bool.not_eq_true']
  intro e he
  cases hb : Region.binds .any e with
  | false => exact .inl rfl
  | true => exact .inr (h2 e (by simpa using he) hb)
theorem set_getD {l : Array Bool} {i j : Nat} {d : Bool} (hi : i < l.size) : (l.setIfInBounds i true).getD j d = if i = j then true else l.getD j d := by
 simp only [Array.getD_eq_getD_getElem?, Array.getElem?_setIfInBounds]
 by_cases h : i = j
 ·subst h; simp [hi]
 ·simp [h]
theorem back_lt {r : Array Oper} (h : backB r = true) {i : Nat} {o : Oper} (ho : r[i]? = some o) {e : Edge} (he : e ∈ o.after.toList) (hb : Region.binds .any e = true) : e.on < i := by
 unfold backB at h
 rw [List.all_eq_true] at h
 have := h i (List.mem_range.2 (Array.getElem?_eq_some_iff.1 ho).1)
 rw [ho] at this
 have := (List.all_eq_true.1 this) e he
 rw [hb] at this
 simpa using this
theorem drawn_nil {r : Array Oper} {fuel : Nat} {listed : Array Bool} (h : Drawn r fuel listed []) : fuel = 0 ∨ Region.ready .any r listed = [] := by
 cases fuel <;> exact h
theorem ops_of_run {P : Program} {E : Entry} {r : Array Oper} {Q : Exit → Act → World → Prop} {ex : List (Nat × Nat)} {s' : S} (hback : backB r = true) (hQ : ∀ β' a' w', Sim E β' s' a' w' → Q .normal a' w') :
  ∀ (τ : List Nat) (fuel : Nat) (listed : Array Bool) (σ : List Nat) (s : S) (β : Be) (a : Act) (w : World), Drawn r fuel listed τ → listed.size = r.size → σ.length ≤ fuel → (∀ i, i ∈ σ ↔ i < r.size ∧ listed.getD i true = false) → Closed r listed →
   okL P r (clo r) ex σ = true → (∀ p q, ex.contains (p, q) = true → p ∈ σ → q ∈ σ → before τ p q = true) → RunN P r σ s s' → Sim E β s a w → wpOps P r Q τ a w
 | [], fuel, listed, σ, s, β, a, w, hd, hsz, hf, hm, hc, hok, hx, hrun, hs => by
  have hnil : σ = [] := by
   rcases drawn_nil hd with rfl | hd
   ·exact List.length_eq_zero_iff.1 (by omega)
   ·cases σ with
    | nil => rfl
    | cons p l =>
     exfalso
     have hp := (hm p).1 (by simp)
     have : p ∈ Region.ready .any r listed := by
      refine ready_iff.2 ⟨r[p], Array.getElem?_eq_getElem hp.1, hp.2, fun e he hb => ?_⟩
      have hbit : ((clo r).getD p 0).testBit e.on = true := (clo_spec (Array.getElem?_eq_getElem hp.1) e.on).2 ⟨e, he, hb, .inl rfl⟩
      have hlt0 := back_lt hback (Array.getElem?_eq_getElem hp.1) he hb
      have hlt : e.on < r.size := Nat.lt_trans hlt0 hp.1
      cases hl : listed.getD e.on false with
      | true => rfl
      | false =>
       exfalso
       have hl' : listed.getD e.on true = false := by
        rw [Array.getD_eq_getD_getElem?, Array.getElem?_eq_getElem (by omega)] at hl ⊢
        exact hl
       have hmem : e.on ∈ p :: l := (hm e.on).2 ⟨hlt, hl'⟩
       rcases List.mem_cons.1 hmem with hep | hmem
       ·omega
       ·have := okL_head hok hmem
        simp only [okP, Bool.and_eq_true, Bool.not_eq_true'] at this
        rw [this.1.2] at hbit
        cases hbit
     rw [hd] at this
     simp at this
  subst hnil
  have : s' = s := hrun
  subst this
  exact hQ β a w hs
 | i :: τ, 0, listed, σ, s, β, a, w, hd, _, _, _, _, _, _, _, _ => hd.elim
 | i :: τ, fuel + 1, listed, σ, s, β, a, w, hd, hsz, hf, hm, hc, hok, hx, hrun, hs => by
  obtain ⟨hi, hd⟩ := hd
  obtain ⟨o, ho, h1, h2⟩ := ready_iff.1 hi
  have hil : i < r.size := (Array.getElem?_eq_some_iff.1 ho).1
  have hiσ : i ∈ σ := (hm i).2 ⟨hil, h1⟩
  obtain ⟨l, m, rfl⟩ := List.append_of_mem hiσ
  have hnd := okL_nodup hok
  have hfront : ∀ p ∈ l, ∃ x y, r[p]? = some x ∧ r[i]? = some y ∧ (indepB P r x y || indepC P r x y) = true := by
   intro p hp
   have hpl := (hm p).1 (by simp [hp])
   have h3 := okL_at hok hp
   have hpi : p ≠ i := by
    intro e
    subst e
    simp [okP] at h3
   simp only [okP, Bool.and_eq_true, Bool.or_eq_true] at h3
   rcases h3.2 with (h4 | h4) | h4
   ·exfalso
    have := clo_listed hc i o ho h2 p h4
    have h5 := hpl.2
    rw [Array.getD_eq_getD_getElem?, Array.getElem?_eq_getElem (by omega)] at this h5
    simp only [Option.getD_some] at this h5
    rw [this] at h5
    cases h5
   ·exfalso
    have := hx p i h4 (by simp [hp]) (by simp)
    simp [before, hpi, Ne.symm hpi] at this
   ·split at h4
    ·rename_i x y hx hy
     exact ⟨x, y, hx, hy, h4⟩
    ·cases h4
  obtain ⟨s1, h3, h4⟩ := run_front hfront hrun
  have hset : ∀ (j : Nat) (d : Bool), (listed.setIfInBounds i true).getD j d = if i = j then true else listed.getD j d := fun j d => set_getD (by omega)
  rw [wpOps_cons]
  refine stepN_wp h3 hs fun β' a' w' hs' => ?_
  refine ops_of_run hback hQ τ fuel (listed.setIfInBounds i true) (l ++ m) s1 β' a' w' hd (by simpa using hsz) ?_ ?_ ?_ (okL_drop hok) ?_ h4 hs'
  ·simp only [List.length_append, List.length_cons] at hf ⊢
   omega
  ·intro j
   have hj := hm j
   rw [hset]
   have hd1 : i ∉ l ∧ i ∉ m := by
    rw [List.nodup_append] at hnd
    exact ⟨fun h => hnd.2.2 i h i (by simp) rfl, (List.nodup_cons.1 hnd.2.1).1⟩
   simp only [List.mem_append, List.mem_cons] at hj ⊢
   by_cases hij : i = j
   ·subst hij
    simp [hd1.1, hd1.2]
   ·rw [if_neg hij, ← hj]
    simp [Ne.symm hij]
  ·intro j oj hj hl e he hb
   rw [hset] at hl ⊢
   by_cases hij : i = j
   ·subst hij
    rw [hj] at ho
    cases ho
    split
    ·rfl
    ·exact h2 e he hb
   ·rw [if_neg hij] at hl
    split
    ·rfl
    ·exact hc j oj hj hl e he hb
  ·intro p q hpq hp hq
   have hd1 : i ∉ l ∧ i ∉ m := by
    rw [List.nodup_append] at hnd
    exact ⟨fun h => hnd.2.2 i h i (by simp) rfl, (List.nodup_cons.1 hnd.2.1).1⟩
   have hne : ∀ x ∈ l ++ m, i ≠ x := by
    intro x hx e
    subst e
    exact (List.mem_append.1 hx).elim hd1.1 hd1.2
   have hin : ∀ x ∈ l ++ m, x ∈ l ++ i :: m := by
    intro x hx
    simp only [List.mem_append, List.mem_cons] at hx ⊢
    exact hx.imp id .inr
   have := hx p q hpq (hin p hp) (hin q hq)
   simpa [before, hne p hp, hne q hq] using this
def choices : List (Nat × Nat) → List (List (Nat × Nat))
 | [] => [[]]
 | (a, b) :: U => (choices U).flatMap fun l => [(a, b) :: l, (b, a) :: l]
theorem choice_of (τ : List Nat) : ∀ {U : List (Nat × Nat)}, (∀ u ∈ U, u.1 ≠ u.2) → ∃ ex ∈ choices U, ∀ p q, ex.contains (p, q) = true → before τ p q = true
 | [], _ => ⟨[], by simp [choices], fun p q h => by simp at h⟩
 | (a, b) :: U, h => by
  obtain ⟨ex, h1, h2⟩ := choice_of τ (U := U) fun u hu => h u (by simp [hu])
  have hne : a ≠ b := h (a, b) (by simp)
  rcases before_total hne (l := τ) with h3 | h3
  ·refine ⟨(a, b) :: ex, List.mem_flatMap.2 ⟨ex, h1, by simp⟩, fun p q hpq => ?_⟩
   simp only [List.contains_cons, Bool.or_eq_true, beq_iff_eq, Prod.mk.injEq] at hpq
   rcases hpq with ⟨rfl, rfl⟩ | hpq
   ·exact h3
   ·exact h2 p q hpq
  ·refine ⟨(b, a) :: ex, List.mem_flatMap.2 ⟨ex, h1, by simp⟩, fun p q hpq => ?_⟩
   simp only [List.contains_cons, Bool.or_eq_true, beq_iff_eq, Prod.mk.injEq] at hpq
   rcases hpq with ⟨rfl, rfl⟩ | hpq
   ·exact h3
   ·exact h2 p q hpq
def coverB (P : Program) (r : Array Oper) (U : List (Nat × Nat)) (os : List (List Nat)) : Bool :=
 backB r && U.all (fun u => u.1 != u.2) && os.all (fun σ => σ.length == r.size && (List.range r.size).all σ.contains && σ.all fun i => decide (i < r.size)) &&
 (let T := clo r; (choices U).all fun ex => os.any fun σ => okL P r T ex σ)
theorem wp_drawn {P : Program} {E : Entry} {id : Nat} {r : Array Oper} {U : List (Nat × Nat)} {os : List (List Nat)} (hP : P.follows .mixedOrders = true) (hcov : coverB P r U os = true) {s : S} {K : S → Prop}
  (h : ∀ σ ∈ os, ∃ s', RunN P r σ s s' ∧ ∀ β a w, Sim E β s' a w → ∃ β' t, K t ∧ Sim E β' t a w) : Den P E (.region id r true) s fun e s' => e = .normal ∧ K s' := by
 intro β a w hs Q hQ
 refine wp_region_draw fun t => ?_
 simp only [Region.schedule, hP, Bool.true_or, if_true]
 simp only [coverB, Bool.and_eq_true] at hcov
 obtain ⟨⟨⟨hback, hU⟩, hperm⟩, hch⟩ := hcov
 have hd := drawn_go (r := r) r.size t (Array.replicate r.size false)
 obtain ⟨ex, hex, hbef⟩ := choice_of (Region.linearise .any r t) (U := U) fun u hu => by
  have := List.all_eq_true.1 hU u hu
  simpa using this
 obtain ⟨σ, hσ, hok⟩ := List.any_eq_true.1 (List.all_eq_true.1 hch ex hex)
 have hp := List.all_eq_true.1 hperm σ hσ
 simp only [Bool.and_eq_true, beq_iff_eq, List.all_eq_true, List.mem_range, decide_eq_true_eq] at hp
 obtain ⟨⟨hlen, hall⟩, hlt⟩ := hp
 obtain ⟨s', hrun, hK⟩ := h σ hσ
 have hs2 : Sim E β s a { w with drawn := w.drawn + 1 } := ⟨hs.dfr, hs.sl, ⟨hs.hp.len, hs.hp.ob, hs.hp.flat, hs.hp.apart⟩, hs.ent, ⟨hs.st.le, hs.st.os, hs.st.tape, hs.st.output, hs.st.size, hs.st.block, hs.st.len, hs.st.old, hs.st.fresh⟩⟩
 refine ops_of_run hback (fun β' a' w' hs' => let ⟨β2, t2, hk2, hs2⟩ := hK β' a' w' hs'; hQ .normal t2 β2 a' w' ⟨rfl, hk2⟩ hs2) (Region.linearise .any r t) r.size _ σ s β a _ hd (by simp) (by omega) (fun i => ?_) (fun i o ho hl => ?_) hok (fun p q hpq _ _ => hbef p q hpq) hrun hs2
 ·constructor
  ·intro hi
   refine ⟨hlt i hi, ?_⟩
   simp [Array.getD_eq_getD_getElem?, hlt i hi]
  ·rintro ⟨hi, _⟩
   simpa using hall i hi
 ·exfalso
  simp only [Array.getD_eq_getD_getElem?, Array.getElem?_replicate] at hl
  split at hl <;> cases hl

inductive StD where
 | go (l : List Nat) (s : S) (c : Prop)
 | call (f : Nat) (args : List AV) (d : Option Tmp) (l : List Nat) (s : S) (c : Prop)
 | fin (s : S) (c : Prop)
 | bad
def stepOpD (P : Program) (o : Oper) (l : List Nat) (s : S) (c : Prop) : StD :=
 match o.op with
 | .call ⟨.value x, args, _⟩ => match s.ev x, s.evs args.toList with
  | some (.cl f caps), some avs => .call f (avs ++ scAll caps) o.dst l s c
  | _, _ => .bad
 | op => match aop P s o.type op with
  | some ⟨v, h, d⟩ => .go l (s.put o.dst v h) (c ∧ d)
  | none => .bad
def stepD (P : Program) (r : Array Oper) : List Nat → S → Prop → StD
 | [], s, c => .fin s c
 | i :: l, s, c => match r[i]? with
  | some o => match guardOf r s o with
   | some b => match b with
    | true => stepOpD P o l s c
    | false => .go l (s.put o.dst (some (.tu [])) s.hp) c
   | none => .bad
  | none => .bad
def runD (P : Program) (r : Array Oper) : Nat → StD → StD
 | 0, x => x
 | n + 1, .go l s c => runD P r n (stepD P r l s c)
 | _ + 1, .call f a d l s c => .call f a d l s c
 | _ + 1, .fin s c => .fin s c
 | _ + 1, .bad => .bad
def denD (P : Program) (r : Array Oper) (G : S → Prop) : StD → Prop
 | .go l s c => c ∧ ∃ s', RunN P r l s s' ∧ G s'
 | .call f args d l s c => c ∧ ∃ res h', CallA P f args s.hp res h' ∧ Hp.ext s.hp h' ∧ ∃ s', RunN P r l (s.put d (some res) h') s' ∧ G s'
 | .fin s c => c ∧ G s
 | .bad => False
theorem stepD_den {P : Program} {r : Array Oper} {G : S → Prop} {l : List Nat} {s : S} {c : Prop} (h : denD P r G (stepD P r l s c)) : denD P r G (.go l s c) := by
 cases l with
 | nil => exact ⟨h.1, s, rfl, h.2⟩
 | cons i l =>
  simp only [stepD] at h
  split at h
  ·rename_i o ho
   split at h
   ·rename_i b hg
    cases b with
    | true =>
     unfold stepOpD at h
     dsimp only at h
     split at h
     ·rename_i x args at_ hop
      split at h
      ·rename_i f caps avs hx ha
       obtain ⟨hc, res, h', hcall, hext, s', hrun, hG⟩ := h
       refine ⟨hc, s', ⟨_, ?_, hrun⟩, hG⟩
       unfold StepN
       rw [ho]
       dsimp only
       rw [hg]
       exact .inr ⟨x, args, at_, f, caps, avs, res, h', hop, hx, ha, hcall, hext, rfl⟩
      ·exact h.elim
     ·split at h
      ·rename_i v hp d hx
       obtain ⟨⟨hc, hd⟩, s', hrun, hG⟩ := h
       refine ⟨hc, s', ⟨_, ?_, hrun⟩, hG⟩
       unfold StepN
       rw [ho]
       dsimp only
       rw [hg]
       exact .inl ⟨_, hx, hd, rfl⟩
      ·exact h.elim
    | false =>
     obtain ⟨hc, s', hrun, hG⟩ := h
     refine ⟨hc, s', ⟨_, ?_, hrun⟩, hG⟩
     unfold StepN
     rw [ho]
     dsimp only
     rw [hg]
   ·exact h.elim
  ·exact h.elim
theorem runD_den {P : Program} {r : Array Oper} {G : S → Prop} : ∀ (n : Nat) {x : StD}, denD P r G (runD P r n x) → denD P r G x
 | 0, x, h => h
 | n + 1, .go l s c, h => stepD_den (runD_den n h)
 | n + 1, .call .., h => h
 | n + 1, .fin .., h => h
 | n + 1, .bad, h => h
def noOwn : Hp → Bool
 | [] => true
 | some ob :: h => !ob.own && noOwn h
 | none :: h => noOwn h
theorem noOwn_get : ∀ {h : Hp} {i : Nat} {t : AObj}, noOwn h = true → h[i]? = some (some t) → t.own = false
 | [], i, t, _, h => by simp at h
 | some ob :: l, 0, t, hn, h => by
  simp at h
  subst h
  simp [noOwn] at hn
  exact hn.1
 | none :: l, 0, t, hn, h => by simp at h
 | some ob :: l, i + 1, t, hn, h => noOwn_get (h := l) (by simp [noOwn] at hn; exact hn.2) (by simpa using h)
 | none :: l, i + 1, t, hn, h => noOwn_get (h := l) (by simpa [noOwn] using hn) (by simpa using h)
theorem den_callD {P : Program} {r : Array Oper} {G : S → Prop} {f : Nat} {avs : List AV} {d : Option Tmp} {l : List Nat} {s : S} {c : Prop} {args0 : List AV} {h0 h0' : Hp} {res0 : AV} (hc : c) (ct : CallA P f args0 h0 res0 h0') (ρ : Rho)
  (hm : avsM ρ args0 avs ∧ hpM ρ s.hp ρ h0) (hsep : sepB ρ h0 = true) (hno : noOwn h0 = true) (h : denD P r G (.go l (s.put d (some (renAV ρ s.hp.length res0)) (s.hp ++ renHp ρ s.hp.length (h0'.drop h0.length))) True)) : denD P r G (.call f avs d l s c) := by
 have hu : ∀ (ρ' : Rho) (h h' s' : Hp), (∀ (i : Nat) (t : AObj), h[i]? = some (some t) → t.own = false) → updH ρ s.hp.length ρ' h h' s' = s' := by
  intro ρ'
  induction ρ' with
  | nil => intro h h' s' _; simp [updH]
  | cons x ρ' ih =>
   intro h h' s' hn
   cases h with
   | nil => cases x <;> simp [updH]
   | cons y h =>
    have hn' : ∀ (i : Nat) (t : AObj), h[i]? = some (some t) → t.own = false := fun i t ht => hn (i + 1) t (by simpa using ht)
    cases h' with
    | nil => cases x <;> cases y <;> simp [updH]
    | cons z h' =>
     cases x with
     | none => cases y <;> simpa [updH] using ih h h' s' hn'
     | some x =>
      cases y with
      | none => simpa [updH] using ih h h' s' hn'
      | some y =>
       obtain ⟨n, e⟩ := x
       have ho := hn 0 y (by simp)
       simpa [updH, ho] using ih h h' s' hn'
 have hcall : hpCall ρ h0 h0' s.hp = s.hp ++ renHp ρ s.hp.length (h0'.drop h0.length) := by
  unfold hpCall
  rw [hu ρ h0 h0' s.hp fun i t ht => noOwn_get hno ht]
 obtain ⟨_, s', hrun, hG⟩ := h
 refine ⟨hc, _, _, callA_at ct ρ hm.1 hm.2 hsep, ?_, s', by rw [hcall]; exact hrun, hG⟩
 rw [hcall]
 exact ext_append _ _
def allDn (f : List Nat → Prop) : List (List Nat) → Prop
 | [] => True
 | [σ] => f σ
 | σ :: l => f σ ∧ allDn f l
theorem allDn_mem {f : List Nat → Prop} : ∀ {l : List (List Nat)}, allDn f l → ∀ σ ∈ l, f σ
 | [σ], h, _, hm => by simp at hm; subst hm; exact h
 | σ :: τ :: l, h, x, hm => by
  rcases List.mem_cons.1 hm with rfl | hm
  ·exact h.1
  ·exact allDn_mem h.2 x hm
theorem den_draw {P : Program} {E : Entry} {F : S → Prop} {id : Nat} {r : Array Oper} {k : List Item} {s : S} {c : Prop} (U : List (Nat × Nat)) (os : List (List Nat)) (hP : P.follows .mixedOrders = true) (hc : c) (hcov : coverB P r U os = true)
  (h : allDn (fun σ => denD P r (fun s' => den P E F (.go k s' True)) (.go σ s True)) os) : den P E F (.draw id r k s c) := by
 refine ⟨hc, den_mono (wp_drawn hP hcov (K := fun s' => den P E F (.go k s' True)) fun σ hσ => let ⟨s', h1, h2⟩ := (allDn_mem h σ hσ).2; ⟨s', h1, fun β a w hs => ⟨β, s', h2, hs⟩⟩) fun e s' hk => ?_⟩
 obtain ⟨rfl, hk⟩ := hk
 exact hk.2
theorem den_draw1 {P : Program} {E : Entry} {F : S → Prop} {id : Nat} {r : Array Oper} {k : List Item} {s : S} {c : Prop} (σ : List Nat) (hP : P.follows .mixedOrders = true) (hc : c) (hcov : coverB P r [] [σ] = true)
  (h : denD P r (fun s' => den P E F (.go k s' True)) (.go σ s True)) : den P E F (.draw id r k s c) :=
 den_draw [] [σ] hP hc hcov h
attribute [go_sem] runD stepD stepOpD allDn
end
section
open Go.RowKit

theorem drawn_before {r : Array Oper} (hb : backB r = true) : ∀ {τ : List Nat} {fuel : Nat} {listed : Array Bool}, Drawn r fuel listed τ → ∀ {p q : Nat} {o : Oper} {e : Edge}, r[q]? = some o → e ∈ o.after.toList → Region.binds .any e = true → e.on = p → listed.size = r.size → listed.getD p true = false → before τ p q = true
 | [], fuel, listed, _, p, q, o, e, ho, he, hbd, hp, _, _ => by
  have := back_lt hb ho he hbd
  simp only [before, decide_eq_true_eq]
  omega
 | i :: τ, 0, listed, h, _, _, _, _, _, _, _, _, _, _ => h.elim
 | i :: τ, fuel + 1, listed, ⟨hi, hd⟩, p, q, o, e, ho, he, hbd, hp, hsz, hl => by
  obtain ⟨oi, hoi, h1, h2⟩ := ready_iff.1 hi
  have hil : i < listed.size := by rw [hsz]; exact (Array.getElem?_eq_some_iff.1 hoi).1
  simp only [before]
  by_cases h3 : i = p
  ·rw [if_pos h3]
  ·rw [if_neg h3]
   by_cases h4 : i = q
   ·exfalso
    subst h4
    rw [ho] at hoi
    cases hoi
    have h5 := h2 e he hbd
    rw [hp] at h5
    have hlt : p < listed.size := by
     have := back_lt hb ho he hbd
     have := (Array.getElem?_eq_some_iff.1 ho).1
     omega
    rw [Array.getD_eq_getD_getElem?, Array.getElem?_eq_getElem hlt] at h5 hl
    simp only [Option.getD_some] at h5 hl
    rw [h5] at hl
    cases hl
   ·rw [if_neg h4]
    exact drawn_before hb hd ho he hbd hp (by simpa using hsz) (by rw [set_getD hil, if_neg h3]; exact hl)
theorem before_cyc {a b c : Nat} (h1 : a ≠ b) (h2 : b ≠ c) (h3 : a ≠ c) : ∀ {l : List Nat}, before l a b = true → before l b c = true → before l c a = true → False
 | [], x, y, z => by
  simp only [before, decide_eq_true_eq] at x y z
  omega
 | i :: l, x, y, z => by
  simp only [before] at x y z
  by_cases ha : i = a
  ·subst ha
   rw [if_neg h3, if_pos rfl] at z
   cases z
  ·rw [if_neg ha] at x
   by_cases hb : i = b
   ·rw [if_pos hb] at x
    cases x
   ·rw [if_neg hb] at x y
    by_cases hc : i = c
    ·rw [if_pos hc] at y
     cases y
    ·rw [if_neg hc] at y z
     rw [if_neg ha] at z
     exact before_cyc h1 h2 h3 x y z
def edgeB (r : Array Oper) (b c : Nat) : Bool := match r[c]? with
 | some o => o.after.toList.any fun e => Region.binds .any e && e.on == b
 | none => false
def badB (r : Array Oper) (ex : List (Nat × Nat)) : Bool := ex.any fun u => ex.any fun v => v.2 == u.1 && (u.1 != v.1 && (u.2 != v.1 && (u.1 != u.2 && (edgeB r u.2 v.1 && decide (u.2 < r.size)))))
def coverC (P : Program) (r : Array Oper) (U : List (Nat × Nat)) (os : List (List Nat)) : Bool :=
 backB r && U.all (fun u => u.1 != u.2) && os.all (fun σ => σ.length == r.size && (List.range r.size).all σ.contains && σ.all fun i => decide (i < r.size)) &&
 (let T := clo r; (choices U).all fun ex => badB r ex || os.any fun σ => okL P r T ex σ)
theorem wp_drawnC {P : Program} {E : Entry} {id : Nat} {r : Array Oper} {U : List (Nat × Nat)} {os : List (List Nat)} (hP : P.follows .mixedOrders = true) (hcov : coverC P r U os = true) {s : S} {K : S → Prop}
  (h : ∀ σ ∈ os, ∃ s', RunN P r σ s s' ∧ ∀ β a w, Sim E β s' a w → ∃ β' t, K t ∧ Sim E β' t a w) : Den P E (.region id r true) s fun e s' => e = .normal ∧ K s' := by
 intro β a w hs Q hQ
 refine wp_region_draw fun t => ?_
 simp only [Region.schedule, hP, Bool.true_or, if_true]
 simp only [coverC, Bool.and_eq_true] at hcov
 obtain ⟨⟨⟨hback, hU⟩, hperm⟩, hch⟩ := hcov
 have hd := drawn_go (r := r) r.size t (Array.replicate r.size false)
 obtain ⟨ex, hex, hbef⟩ := choice_of (Region.linearise .any r t) (U := U) fun u hu => by
  have := List.all_eq_true.1 hU u hu
  simpa using this
 have hsome := List.all_eq_true.1 hch ex hex
 rcases Bool.or_eq_true_iff.1 hsome with hbad | hsome
 ·exfalso
  obtain ⟨u, hu, hbad⟩ := List.any_eq_true.1 hbad
  obtain ⟨v, hv, hbad⟩ := List.any_eq_true.1 hbad
  simp only [Bool.and_eq_true, beq_iff_eq, bne_iff_ne, ne_eq, decide_eq_true_eq] at hbad
  obtain ⟨h1, h2, h3, h4, h5, h6⟩ := hbad
  have b1 := hbef u.1 u.2 (by rw [List.contains_iff_mem]; exact hu)
  have b2 := hbef v.1 v.2 (by rw [List.contains_iff_mem]; exact hv)
  rw [h1] at b2
  unfold edgeB at h5
  split at h5
  ·rename_i o ho
   obtain ⟨e, he, he2⟩ := List.any_eq_true.1 h5
   simp only [Bool.and_eq_true, beq_iff_eq] at he2
   have b3 := drawn_before hback hd ho he he2.1 he2.2 (by simp) (by simp [Array.getD_eq_getD_getElem?, h6])
   exact before_cyc h4 h3 h2 b1 b3 b2
  ·cases h5
 ·obtain ⟨σ, hσ, hok⟩ := List.any_eq_true.1 hsome
  have hp := List.all_eq_true.1 hperm σ hσ
  simp only [Bool.and_eq_true, beq_iff_eq, List.all_eq_true, List.mem_range, decide_eq_true_eq] at hp
  obtain ⟨⟨hlen, hall⟩, hlt⟩ := hp
  obtain ⟨s', hrun, hK⟩ := h σ hσ
  have hs2 : Sim E β s a { w with drawn := w.drawn + 1 } := ⟨hs.dfr, hs.sl, ⟨hs.hp.len, hs.hp.ob, hs.hp.flat, hs.hp.apart⟩, hs.ent, ⟨hs.st.le, hs.st.os, hs.st.tape, hs.st.output, hs.st.size, hs.st.block, hs.st.len, hs.st.old, hs.st.fresh⟩⟩
  refine ops_of_run hback (fun β' a' w' hs' => let ⟨β2, t2, hk2, hs2⟩ := hK β' a' w' hs'; hQ .normal t2 β2 a' w' ⟨rfl, hk2⟩ hs2) (Region.linearise .any r t) r.size _ σ s β a _ hd (by simp) (by omega) (fun i => ?_) (fun i o ho hl => ?_) hok (fun p q hpq _ _ => hbef p q hpq) hrun hs2
  ·constructor
   ·intro hi
    refine ⟨hlt i hi, ?_⟩
    simp [Array.getD_eq_getD_getElem?, hlt i hi]
   ·rintro ⟨hi, _⟩
    simpa using hall i hi
  ·exfalso
   simp only [Array.getD_eq_getD_getElem?, Array.getElem?_replicate] at hl
   split at hl <;> cases hl
theorem den_drawC {P : Program} {E : Entry} {F : S → Prop} {id : Nat} {r : Array Oper} {k : List Item} {s : S} {c : Prop} (U : List (Nat × Nat)) (os : List (List Nat)) (hP : P.follows .mixedOrders = true) (hc : c) (hcov : coverC P r U os = true)
  (h : allDn (fun σ => denD P r (fun s' => den P E F (.go k s' True)) (.go σ s True)) os) : den P E F (.draw id r k s c) := by
 refine ⟨hc, den_mono (wp_drawnC hP hcov (K := fun s' => den P E F (.go k s' True)) fun σ hσ => let ⟨s', h1, h2⟩ := (allDn_mem h σ hσ).2; ⟨s', h1, fun β a w hs => ⟨β, s', h2, hs⟩⟩) fun e s' hk => ?_⟩
 obtain ⟨rfl, hk⟩ := hk
 exact hk.2
end
section
open Go.RowKit

def indepW (P : Program) (r : Array Oper) (i j : Oper) : Bool :=
 optNe i.dst j.dst && notIn i.dst (looks r j) && notIn j.dst (looks r i) && (cls P i == 0 && cls P j != 5 || cls P i == 1 && (cls P j != 4 && cls P j != 3))
def ActW (P : Program) (o : Oper) (s s' : S) : Prop :=
 (∃ x, aop P s o.type o.op = some x ∧ x.c ∧ s' = s.put o.dst x.v x.hp) ∨
 (∃ (y : Operand) (args : Array Operand) (at_ : Array TypeId) (f : Nat) (caps : List Sc) (avs : List AV) (res : AV) (h' : Hp), o.op = .call ⟨.value y, args, at_⟩ ∧ s.ev y = some (.cl f caps) ∧ s.evs args.toList = some avs ∧
  CallA P f (avs ++ scAll caps) s.hp res h' ∧ s' = s.put o.dst (some res) h')
def StepW (P : Program) (r : Array Oper) (i : Nat) (s s' : S) : Prop :=
 match r[i]? with
 | none => s' = s
 | some o => match guardOf r s o with
  | some true => ActW P o s s'
  | some false => s' = s.put o.dst (some (.tu [])) s.hp
  | none => False
def RunW (P : Program) (r : Array Oper) : List Nat → S → S → Prop
 | [], s, s' => s' = s
 | i :: l, s, s'' => ∃ s', StepW P r i s s' ∧ RunW P r l s' s''
theorem swapW {P : Program} {r : Array Oper} {i j : Nat} {oi oj : Oper} (hi : r[i]? = some oi) (hj : r[j]? = some oj) (hind : indepW P r oi oj = true) {s s1 s2 : S} (h1 : StepW P r i s s1) (h2 : StepW P r j s1 s2) :
  ∃ s1', StepW P r j s s1' ∧ StepW P r i s1' s2 := by
 simp only [indepW, Bool.and_eq_true, Bool.or_eq_true, beq_iff_eq, bne_iff_ne] at hind
 obtain ⟨⟨⟨hne, hij⟩, hji⟩, hcls⟩ := hind
 have hci : cls P oi = 0 ∨ cls P oi = 1 := by rcases hcls with h | h; exact .inl h.1; exact .inr h.1
 unfold StepW at h1 h2
 rw [hi] at h1
 rw [hj] at h2
 dsimp only at h1 h2
 -- what step i does: it puts a value, and leaves the heap
 have key : ∃ v, s1 = s.put oi.dst v s.hp ∧ ∀ (t : S), Alike (looks r oi) s t → (cls P oi = 0 ∨ Hp.ext s.hp t.hp) → StepW P r i t (t.put oi.dst v t.hp) := by
  split at h1
  ·rename_i hg
   rcases h1 with ⟨x, hx, hc, rfl⟩ | ⟨y, args, at_, f, caps, avs, res, h', ho, _⟩
   ·have hx2 : x.hp = s.hp ∧ ∀ t : S, Alike (looks r oi) s t → (cls P oi = 0 ∨ Hp.ext s.hp t.hp) → aop P t oi.type oi.op = some ⟨x.v, t.hp, x.c⟩ := by
     have eqv : ∀ t : S, Alike (looks r oi) s t → aop P t oi.type oi.op = aop P ⟨s.sl, t.hp⟩ oi.type oi.op := fun t ha => (aop_alike (s := ⟨s.sl, t.hp⟩) (s' := t) rfl (fun q hq => alike_ops ha q hq)).symm
     rcases hci with h0 | h0
     ·obtain ⟨e1, e2⟩ := aop_pure h0 hx
      exact ⟨e1, fun t ha _ => by rw [eqv t ha]; exact e2 t.hp⟩
     ·obtain ⟨e1, e2⟩ := aop_read h0 hx
      exact ⟨e1, fun t ha he => by rw [eqv t ha]; exact e2 t.hp (he.resolve_left (by rw [h0]; simp))⟩
    refine ⟨x.v, by rw [hx2.1], fun t ha he => ?_⟩
    unfold StepW
    rw [hi]
    dsimp only
    rw [← guard_alike ha, hg]
    exact .inl ⟨_, hx2.2 t ha he, hc, rfl⟩
   ·exfalso
    have : cls P oi = 3 := by unfold cls; rw [ho]; rfl
    omega
  ·rename_i hg
   refine ⟨some (.tu []), h1, fun t ha _ => ?_⟩
   unfold StepW
   rw [hi]
   dsimp only
   rw [← guard_alike ha, hg]
  ·exact h1.elim
 obtain ⟨v, rfl, hstep⟩ := key
 have hal : Alike (looks r oj) s (s.put oi.dst v s.hp) := alike_put hij
 have hhp : (s.put oi.dst v s.hp).hp = s.hp := put_hp _ _ _ _
 rw [← guard_alike hal] at h2
 -- what step j does
 have fin : ∀ (u : Option AV) (h' : Hp), s2 = (s.put oi.dst v s.hp).put oj.dst u h' → (cls P oi = 0 ∨ Hp.ext s.hp h') → StepW P r j s (s.put oj.dst u h') → ∃ s1', StepW P r j s s1' ∧ StepW P r i s1' s2 := by
  intro u h' he hx hj'
  refine ⟨s.put oj.dst u h', hj', ?_⟩
  have h3 := hstep (s.put oj.dst u h') (alike_put hji) (by rw [put_hp]; exact hx)
  rw [put_hp] at h3
  rw [he, put_put s v u s.hp h' hne]
  exact h3
 split at h2
 ·rename_i hg
  rcases h2 with ⟨x, hx, hc, rfl⟩ | ⟨y, args, at_, f, caps, avs, res, h', ho, hy, ha, hcall, rfl⟩
  ·have hx' : aop P s oj.type oj.op = some x := by rw [aop_alike (s := s) (s' := s.put oi.dst v s.hp) hhp.symm (alike_ops hal)]; exact hx
   refine fin x.v x.hp rfl ?_ ?_
   ·rcases hcls with h0 | h0
    ·exact .inl h0.1
    ·right
     have h4 : cls P oj ≠ 4 := h0.2.1
     exact aop_ext hx' h4
   ·unfold StepW
    rw [hj]
    dsimp only
    rw [hg]
    exact .inl ⟨x, hx', hc, rfl⟩
  ·have hal' := alike_ops hal
   rw [ho] at hal'
   have e1 : s.ev y = some (.cl f caps) := by
    rw [ev_alike (s := s) (s' := s.put oi.dst v s.hp) (x := y) (fun t ht => hal' t (mem_opTmps (by subst ht; simp [Op.operands, Call.operands])))]
    exact hy
   have e2 : s.evs args.toList = some avs := by
    rw [evs_alike (s := s) (s' := s.put oi.dst v s.hp) (l := args.toList) (fun z hz => ev_alike fun t ht => hal' t (mem_opTmps (by subst ht; simp [Op.operands, Call.operands]; right; simpa using hz)))]
    exact ha
   rw [hhp] at hcall
   refine fin (some res) h' rfl (.inl (by
    have h3 : cls P oj = 3 := by unfold cls; rw [ho]; rfl
    rcases hcls with h | h
    ·exact h.1
    ·exact absurd h3 h.2.2)) ?_
   unfold StepW
   rw [hj]
   dsimp only
   rw [hg]
   exact .inr ⟨y, args, at_, f, caps, avs, res, h', ho, e1, e2, hcall, rfl⟩
 ·rename_i hg
  refine fin (some (.tu [])) s.hp (by rw [h2, hhp]) (.inr fun o ob h => h) ?_
  unfold StepW
  rw [hj]
  dsimp only
  rw [hg]
 ·exact h2.elim
theorem swapCW {P : Program} {r : Array Oper} {i j : Nat} {oi oj : Oper} (hi : r[i]? = some oi) (hj : r[j]? = some oj) (hind : indepC P r oi oj = true) {s s1 s2 : S} (h1 : StepW P r i s s1) (h2 : StepW P r j s1 s2) :
  ∃ s1', StepW P r j s s1' ∧ StepW P r i s1' s2 := by
 simp only [indepC, Bool.and_eq_true, beq_iff_eq] at hind
 obtain ⟨⟨⟨hne, hij⟩, hji⟩, hcj⟩ := hind
 unfold StepW at h1 h2
 rw [hi] at h1
 rw [hj] at h2
 dsimp only at h1 h2
 -- what step i does: it puts a value and a heap
 have key : ∃ v hp, s1 = s.put oi.dst v hp ∧ ∀ (t : S), Alike (looks r oi) s t → t.hp = s.hp → StepW P r i t (t.put oi.dst v hp) := by
  split at h1
  ·rename_i hg
   rcases h1 with ⟨x, hx, hc, rfl⟩ | ⟨y, args, at_, f, caps, avs, res, h', ho, hy, ha, hcall, rfl⟩
   ·refine ⟨x.v, x.hp, rfl, fun t ha he => ?_⟩
    unfold StepW
    rw [hi]
    dsimp only
    rw [← guard_alike ha, hg]
    exact .inl ⟨x, by rw [← aop_alike he.symm (alike_ops ha)]; exact hx, hc, rfl⟩
   ·refine ⟨some res, h', rfl, fun t hal he => ?_⟩
    unfold StepW
    rw [hi]
    dsimp only
    rw [← guard_alike hal, hg]
    have hal' := alike_ops hal
    rw [ho] at hal'
    have e1 : t.ev y = some (.cl f caps) := by
     rw [← ev_alike (s := s) (s' := t) (x := y) (fun q hq => hal' q (mem_opTmps (by subst hq; simp [Op.operands, Call.operands])))]
     exact hy
    have e2 : t.evs args.toList = some avs := by
     rw [← evs_alike (s := s) (s' := t) (l := args.toList) (fun z hz => ev_alike fun q hq => hal' q (mem_opTmps (by subst hq; simp [Op.operands, Call.operands]; right; simpa using hz)))]
     exact ha
    exact .inr ⟨y, args, at_, f, caps, avs, res, h', ho, e1, e2, by rw [he]; exact hcall, rfl⟩
  ·rename_i hg
   refine ⟨some (.tu []), s.hp, h1, fun t ha he => ?_⟩
   unfold StepW
   rw [hi]
   dsimp only
   rw [← guard_alike ha, hg]
   dsimp only
   rw [he]
  ·exact h1.elim
 obtain ⟨v, hp, rfl, hstep⟩ := key
 have hal : Alike (looks r oj) s (s.put oi.dst v hp) := alike_put hij
 rw [← guard_alike hal] at h2
 have fin : ∀ (u : Option AV), s2 = (s.put oi.dst v hp).put oj.dst u hp → StepW P r j s (s.put oj.dst u s.hp) → ∃ s1', StepW P r j s s1' ∧ StepW P r i s1' s2 := by
  intro u he hj'
  refine ⟨s.put oj.dst u s.hp, hj', ?_⟩
  have h3 := hstep (s.put oj.dst u s.hp) (alike_put hji) (put_hp _ _ _ _)
  rw [he, put_put s v u hp hp hne]
  have e : ∀ (a b : S) (d : Option Tmp) (x : Option AV) (h : Hp), a.sl = b.sl → a.put d x h = b.put d x h := by
   intro a b d x h hab
   cases d <;> simp [S.put, hab]
  rw [e (s.put oj.dst u hp) (s.put oj.dst u s.hp) oi.dst v hp (by cases oj.dst <;> rfl)]
  exact h3
 split at h2
 ·rename_i hg
  rcases h2 with ⟨x, hx, hc, rfl⟩ | ⟨y, args, at_, f, caps, avs, res, h', ho, _⟩
  ·have hx1 : aop P ⟨s.sl, hp⟩ oj.type oj.op = some x := by
    rw [aop_alike (s := ⟨s.sl, hp⟩) (s' := s.put oi.dst v hp) (by rw [put_hp]) (fun q hq => alike_ops hal q hq)]
    exact hx
   obtain ⟨e1, e2⟩ := aop_pure hcj hx1
   have e3 := e2 s.hp
   refine fin x.v (by rw [e1]) ?_
   unfold StepW
   rw [hj]
   dsimp only
   rw [hg]
   exact .inl ⟨_, e3, hc, rfl⟩
  ·exfalso
   have : cls P oj = 3 := by unfold cls; rw [ho]; rfl
   omega
 ·rename_i hg
  refine fin (some (.tu [])) (by rw [h2, put_hp]) ?_
  unfold StepW
  rw [hj]
  dsimp only
  rw [hg]
 ·exact h2.elim
def okPW (P : Program) (r : Array Oper) (T : List Nat) (ex : List (Nat × Nat)) (p q : Nat) : Bool :=
 p != q && !(T.getD p 0).testBit q &&
 ((T.getD q 0).testBit p || ex.contains (p, q) || match r[p]?, r[q]? with
  | some x, some y => indepW P r x y || indepC P r x y
  | _, _ => false)
def okLW (P : Program) (r : Array Oper) (T : List Nat) (ex : List (Nat × Nat)) : List Nat → Bool
 | [] => true
 | p :: l => l.all (okPW P r T ex p) && okLW P r T ex l
theorem okLW_drop {P : Program} {r : Array Oper} {T : List Nat} {ex : List (Nat × Nat)} {i : Nat} : ∀ {l m : List Nat}, okLW P r T ex (l ++ i :: m) = true → okLW P r T ex (l ++ m) = true
 | [], m, h => by simp only [List.nil_append, okLW, Bool.and_eq_true] at h ⊢; exact h.2
 | p :: l, m, h => by
  simp only [List.cons_append, okLW, Bool.and_eq_true, List.all_eq_true] at h ⊢
  refine ⟨fun q hq => h.1 q ?_, okLW_drop h.2⟩
  simp only [List.mem_append, List.mem_cons] at hq ⊢
  exact hq.imp id .inr
theorem okLW_at {P : Program} {r : Array Oper} {T : List Nat} {ex : List (Nat × Nat)} {i p : Nat} : ∀ {l m : List Nat}, okLW P r T ex (l ++ i :: m) = true → p ∈ l → okPW P r T ex p i = true
 | [], m, _, h => by simp at h
 | q :: l, m, h, hp => by
  simp only [List.cons_append, okLW, Bool.and_eq_true, List.all_eq_true] at h
  rcases List.mem_cons.1 hp with rfl | hp
  ·exact h.1 i (by simp)
  ·exact okLW_at h.2 hp
theorem okLW_head {P : Program} {r : Array Oper} {T : List Nat} {ex : List (Nat × Nat)} {i p : Nat} {l : List Nat} (h : okLW P r T ex (i :: l) = true) (hp : p ∈ l) : okPW P r T ex i p = true := by
 simp only [okLW, Bool.and_eq_true, List.all_eq_true] at h
 exact h.1 p hp
theorem okLW_nodup {P : Program} {r : Array Oper} {T : List Nat} {ex : List (Nat × Nat)} : ∀ {l : List Nat}, okLW P r T ex l = true → l.Nodup
 | [], _ => List.nodup_nil
 | p :: l, h => by
  refine List.nodup_cons.2 ⟨fun hp => ?_, okLW_nodup (by simp only [okLW, Bool.and_eq_true] at h; exact h.2)⟩
  have := okLW_head h hp
  simp [okPW] at this
theorem run_frontW {P : Program} {r : Array Oper} {i : Nat} : ∀ {l m : List Nat} {s s' : S}, (∀ p ∈ l, ∃ x y, r[p]? = some x ∧ r[i]? = some y ∧ (indepW P r x y || indepC P r x y) = true) → RunW P r (l ++ i :: m) s s' → RunW P r (i :: (l ++ m)) s s'
 | [], m, s, s', _, h => h
 | p :: l, m, s, s', hl, h => by
  obtain ⟨s1, h1, h2⟩ := h
  obtain ⟨s2, h3, h4⟩ := run_frontW (fun q hq => hl q (List.mem_cons_of_mem _ hq)) h2
  obtain ⟨x, y, hx, hy, hind⟩ := hl p (by simp)
  rcases (Bool.or_eq_true _ _).mp hind with hind | hind
  ·obtain ⟨s1', h5, h6⟩ := swapW hx hy hind h1 h3
   exact ⟨s1', h5, s2, h6, h4⟩
  ·obtain ⟨s1', h5, h6⟩ := swapCW hx hy hind h1 h3
   exact ⟨s1', h5, s2, h6, h4⟩
theorem stepW_wp {P : Program} {E : Entry} {r : Array Oper} {i : Nat} {s s1 : S} {β : Be} {a : Act} {w : World} {Q : Exit → Act → World → Prop} {K : Act → World → Prop} (h : StepW P r i s s1) (hs : Sim E β s a w) (hK : ∀ β' a' w', Sim E β' s1 a' w' → K a' w') : wpOp P r Q i K a w := by
 unfold wpOp
 unfold StepW at h
 split at h
 ·rename_i hi
  subst h
  rw [hi]
  exact hK β a w hs
 ·rename_i o ho
  rw [ho]
  dsimp only
  split at h
  ·rename_i hg
   rw [if_pos (guard_R hs.sl hg)]
   refine .inl ?_
   unfold Oper.wp
   rcases h with ⟨x, hx, hc, rfl⟩ | ⟨y, args, at_, f, caps, avs, res, h', hop, hy, ha, ⟨⟨fn, hfn, hname, hbody⟩, hcall⟩, rfl⟩
   ·obtain ⟨β', w', hst, hh, hx'⟩ := aop_sound hs.hp hs.sl hx hc
    rcases hx' with ⟨v, av, hrun, hv, hr⟩ | ⟨hrun, hv⟩
    ·rw [hrun]
     rw [hv] at hK
     exact hK β' _ w' (sim_put hs hst hh o.dst hr)
    ·rw [hrun]
     rw [hv] at hK
     exact hK β' _ w' (sim_putNone hs hst hh o.dst undef)
   ·obtain ⟨cvs, hxe, hcl⟩ : AVR β (.cl f caps) (a.eval y) := ev_R hs.sl hy
    have hav := evs_R hs.sl ha
    have hvs : L2 (AVR β) (avs ++ scAll caps) (args.toList.map a.eval ++ cvs) := hav.append (scAll_R hcl)
    have hrun : (execOp a.eval o).run P w = .ok (.enter f (args.toList.map a.eval ++ cvs).toArray) w := by
     unfold execOp
     rw [hop]
     have e1 : args.map a.eval = (args.toList.map a.eval).toArray := by apply Array.ext'; simp
     have hname' : ¬ fn.name = "runtime.NumGoroutine" := by simpa using hname
     simp only [resolve, hxe, Deferred.ofValue, invoke, callFunc, Sem.run_bind, run_program, Sem.run_pure, Result.andThen_ok, hfn, e1]
     simp [hname', hbody]
    rw [hrun, Oper.upon_enter]
    refine (hcall β w _ hs.hp hvs).mono fun e w' ⟨β', v, he, hr, hh, hst⟩ => ?_
    subst he
    exact hK β' _ w' (sim_put hs hst hh o.dst hr)
  ·rename_i hg
   rw [guard_R hs.sl hg]
   subst h
   exact hK β _ w (sim_put hs (StepR.refl β s.hp w hs.hp.len) hs.hp o.dst ⟨[], rfl, trivial⟩)
  ·exact h.elim

theorem ops_of_runW {P : Program} {E : Entry} {r : Array Oper} {Q : Exit → Act → World → Prop} {ex : List (Nat × Nat)} {s' : S} (hback : backB r = true) (hQ : ∀ β' a' w', Sim E β' s' a' w' → Q .normal a' w') :
  ∀ (τ : List Nat) (fuel : Nat) (listed : Array Bool) (σ : List Nat) (s : S) (β : Be) (a : Act) (w : World), Drawn r fuel listed τ → listed.size = r.size → σ.length ≤ fuel → (∀ i, i ∈ σ ↔ i < r.size ∧ listed.getD i true = false) → Closed r listed →
   okLW P r (clo r) ex σ = true → (∀ p q, ex.contains (p, q) = true → p ∈ σ → q ∈ σ → before τ p q = true) → RunW P r σ s s' → Sim E β s a w → wpOps P r Q τ a w
 | [], fuel, listed, σ, s, β, a, w, hd, hsz, hf, hm, hc, hok, hx, hrun, hs => by
  have hnil : σ = [] := by
   rcases drawn_nil hd with rfl | hd
   ·exact List.length_eq_zero_iff.1 (by omega)
   ·cases σ with
    | nil => rfl
    | cons p l =>
     exfalso
     have hp := (hm p).1 (by simp)
     have : p ∈ Region.ready .any r listed := by
      refine ready_iff.2 ⟨r[p], Array.getElem?_eq_getElem hp.1, hp.2, fun e he hb => ?_⟩
      have hbit : ((clo r).getD p 0).testBit e.on = true := (clo_spec (Array.getElem?_eq_getElem hp.1) e.on).2 ⟨e, he, hb, .inl rfl⟩
      have hlt0 := back_lt hback (Array.getElem?_eq_getElem hp.1) he hb
      have hlt : e.on < r.size := Nat.lt_trans hlt0 hp.1
      cases hl : listed.getD e.on false with
      | true => rfl
      | false =>
       exfalso
       have hl' : listed.getD e.on true = false := by
        rw [Array.getD_eq_getD_getElem?, Array.getElem?_eq_getElem (by omega)] at hl ⊢
        exact hl
       have hmem : e.on ∈ p :: l := (hm e.on).2 ⟨hlt, hl'⟩
       rcases List.mem_cons.1 hmem with hep | hmem
       ·omega
       ·have := okLW_head hok hmem
        simp only [okPW, Bool.and_eq_true, Bool.not_eq_true'] at this
        rw [this.1.2] at hbit
        cases hbit
     rw [hd] at this
     simp at this
  subst hnil
  have : s' = s := hrun
  subst this
  exact hQ β a w hs
 | i :: τ, 0, listed, σ, s, β, a, w, hd, _, _, _, _, _, _, _, _ => hd.elim
 | i :: τ, fuel + 1, listed, σ, s, β, a, w, hd, hsz, hf, hm, hc, hok, hx, hrun, hs => by
  obtain ⟨hi, hd⟩ := hd
  obtain ⟨o, ho, h1, h2⟩ := ready_iff.1 hi
  have hil : i < r.size := (Array.getElem?_eq_some_iff.1 ho).1
  have hiσ : i ∈ σ := (hm i).2 ⟨hil, h1⟩
  obtain ⟨l, m, rfl⟩ := List.append_of_mem hiσ
  have hnd := okLW_nodup hok
  have hfront : ∀ p ∈ l, ∃ x y, r[p]? = some x ∧ r[i]? = some y ∧ (indepW P r x y || indepC P r x y) = true := by
   intro p hp
   have hpl := (hm p).1 (by simp [hp])
   have h3 := okLW_at hok hp
   have hpi : p ≠ i := by
    intro e
    subst e
    simp [okPW] at h3
   simp only [okPW, Bool.and_eq_true, Bool.or_eq_true] at h3
   rcases h3.2 with (h4 | h4) | h4
   ·exfalso
    have := clo_listed hc i o ho h2 p h4
    have h5 := hpl.2
    rw [Array.getD_eq_getD_getElem?, Array.getElem?_eq_getElem (by omega)] at this h5
    simp only [Option.getD_some] at this h5
    rw [this] at h5
    cases h5
   ·exfalso
    have := hx p i h4 (by simp [hp]) (by simp)
    simp [before, hpi, Ne.symm hpi] at this
   ·split at h4
    ·rename_i x y hx hy
     exact ⟨x, y, hx, hy, h4⟩
    ·cases h4
  obtain ⟨s1, h3, h4⟩ := run_frontW hfront hrun
  have hset : ∀ (j : Nat) (d : Bool), (listed.setIfInBounds i true).getD j d = if i = j then true else listed.getD j d := fun j d => set_getD (by omega)
  rw [wpOps_cons]
  refine stepW_wp h3 hs fun β' a' w' hs' => ?_
  refine ops_of_runW hback hQ τ fuel (listed.setIfInBounds i true) (l ++ m) s1 β' a' w' hd (by simpa using hsz) ?_ ?_ ?_ (okLW_drop hok) ?_ h4 hs'
  ·simp only [List.length_append, List.length_cons] at hf ⊢
   omega
  ·intro j
   have hj := hm j
   rw [hset]
   have hd1 : i ∉ l ∧ i ∉ m := by
    rw [List.nodup_append] at hnd
    exact ⟨fun h => hnd.2.2 i h i (by simp) rfl, (List.nodup_cons.1 hnd.2.1).1⟩
   simp only [List.mem_append, List.mem_cons] at hj ⊢
   by_cases hij : i = j
   ·subst hij
    simp [hd1.1, hd1.2]
   ·rw [if_neg hij, ← hj]
    simp [Ne.symm hij]
  ·intro j oj hj hl e he hb
   rw [hset] at hl ⊢
   by_cases hij : i = j
   ·subst hij
    rw [hj] at ho
    cases ho
    split
    ·rfl
    ·exact h2 e he hb
   ·rw [if_neg hij] at hl
    split
    ·rfl
    ·exact hc j oj hj hl e he hb
  ·intro p q hpq hp hq
   have hd1 : i ∉ l ∧ i ∉ m := by
    rw [List.nodup_append] at hnd
    exact ⟨fun h => hnd.2.2 i h i (by simp) rfl, (List.nodup_cons.1 hnd.2.1).1⟩
   have hne : ∀ x ∈ l ++ m, i ≠ x := by
    intro x hx e
    subst e
    exact (List.mem_append.1 hx).elim hd1.1 hd1.2
   have hin : ∀ x ∈ l ++ m, x ∈ l ++ i :: m := by
    intro x hx
    simp only [List.mem_append, List.mem_cons] at hx ⊢
    exact hx.imp id .inr
   have := hx p q hpq (hin p hp) (hin q hq)
   simpa [before, hne p hp, hne q hq] using this
def coverW (P : Program) (r : Array Oper) (U : List (Nat × Nat)) (os : List (List Nat)) : Bool :=
 backB r && U.all (fun u => u.1 != u.2) && os.all (fun σ => σ.length == r.size && (List.range r.size).all σ.contains && σ.all fun i => decide (i < r.size)) &&
 (let T := clo r; (choices U).all fun ex => badB r ex || os.any fun σ => okLW P r T ex σ)
theorem wp_drawnW {P : Program} {E : Entry} {id : Nat} {r : Array Oper} {U : List (Nat × Nat)} {os : List (List Nat)} (hP : P.follows .mixedOrders = true) (hcov : coverW P r U os = true) {s : S} {K : S → Prop}
  (h : ∀ σ ∈ os, ∃ s', RunW P r σ s s' ∧ ∀ β a w, Sim E β s' a w → ∃ β' t, K t ∧ Sim E β' t a w) : Den P E (.region id r true) s fun e s' => e = .normal ∧ K s' := by
 intro β a w hs Q hQ
 refine wp_region_draw fun t => ?_
 simp only [Region.schedule, hP, Bool.true_or, if_true]
 simp only [coverW, Bool.and_eq_true] at hcov
 obtain ⟨⟨⟨hback, hU⟩, hperm⟩, hch⟩ := hcov
 have hd := drawn_go (r := r) r.size t (Array.replicate r.size false)
 obtain ⟨ex, hex, hbef⟩ := choice_of (Region.linearise .any r t) (U := U) fun u hu => by
  have := List.all_eq_true.1 hU u hu
  simpa using this
 have hsome := List.all_eq_true.1 hch ex hex
 rcases Bool.or_eq_true_iff.1 hsome with hbad | hsome
 ·exfalso
  obtain ⟨u, hu, hbad⟩ := List.any_eq_true.1 hbad
  obtain ⟨v, hv, hbad⟩ := List.any_eq_true.1 hbad
  simp only [Bool.and_eq_true, beq_iff_eq, bne_iff_ne, ne_eq, decide_eq_true_eq] at hbad
  obtain ⟨h1, h2, h3, h4, h5, h6⟩ := hbad
  have b1 := hbef u.1 u.2 (by rw [List.contains_iff_mem]; exact hu)
  have b2 := hbef v.1 v.2 (by rw [List.contains_iff_mem]; exact hv)
  rw [h1] at b2
  unfold edgeB at h5
  split at h5
  ·rename_i o ho
   obtain ⟨e, he, he2⟩ := List.any_eq_true.1 h5
   simp only [Bool.and_eq_true, beq_iff_eq] at he2
   have b3 := drawn_before hback hd ho he he2.1 he2.2 (by simp) (by simp [Array.getD_eq_getD_getElem?, h6])
   exact before_cyc h4 h3 h2 b1 b3 b2
  ·cases h5
 ·obtain ⟨σ, hσ, hok⟩ := List.any_eq_true.1 hsome
  have hp := List.all_eq_true.1 hperm σ hσ
  simp only [Bool.and_eq_true, beq_iff_eq, List.all_eq_true, List.mem_range, decide_eq_true_eq] at hp
  obtain ⟨⟨hlen, hall⟩, hlt⟩ := hp
  obtain ⟨s', hrun, hK⟩ := h σ hσ
  have hs2 : Sim E β s a { w with drawn := w.drawn + 1 } := ⟨hs.dfr, hs.sl, ⟨hs.hp.len, hs.hp.ob, hs.hp.flat, hs.hp.apart⟩, hs.ent, ⟨hs.st.le, hs.st.os, hs.st.tape, hs.st.output, hs.st.size, hs.st.block, hs.st.len, hs.st.old, hs.st.fresh⟩⟩
  refine ops_of_runW hback (fun β' a' w' hs' => let ⟨β2, t2, hk2, hs2⟩ := hK β' a' w' hs'; hQ .normal t2 β2 a' w' ⟨rfl, hk2⟩ hs2) (Region.linearise .any r t) r.size _ σ s β a _ hd (by simp) (by omega) (fun i => ?_) (fun i o ho hl => ?_) hok (fun p q hpq _ _ => hbef p q hpq) hrun hs2
  ·constructor
   ·intro hi
    refine ⟨hlt i hi, ?_⟩
    simp [Array.getD_eq_getD_getElem?, hlt i hi]
   ·rintro ⟨hi, _⟩
    simpa using hall i hi
  ·exfalso
   simp only [Array.getD_eq_getD_getElem?, Array.getElem?_replicate] at hl
   split at hl <;> cases hl
def denW (P : Program) (r : Array Oper) (G : S → Prop) : StD → Prop
 | .go l s c => c ∧ ∃ s', RunW P r l s s' ∧ G s'
 | .call f args d l s c => c ∧ ∃ res h', CallA P f args s.hp res h' ∧ ∃ s', RunW P r l (s.put d (some res) h') s' ∧ G s'
 | .fin s c => c ∧ G s
 | .bad => False
theorem stepW_den {P : Program} {r : Array Oper} {G : S → Prop} {l : List Nat} {s : S} {c : Prop} (h : denW P r G (stepD P r l s c)) : denW P r G (.go l s c) := by
 cases l with
 | nil => exact ⟨h.1, s, rfl, h.2⟩
 | cons i l =>
  simp only [stepD] at h
  split at h
  ·rename_i o ho
   split at h
   ·rename_i b hg
    cases b with
    | true =>
     unfold stepOpD at h
     dsimp only at h
     split at h
     ·rename_i x args at_ hop
      split at h
      ·rename_i f caps avs hx ha
       obtain ⟨hc, res, h', hcall, s', hrun, hG⟩ := h
       refine ⟨hc, s', ⟨_, ?_, hrun⟩, hG⟩
       unfold StepW
       rw [ho]
       dsimp only
       rw [hg]
       exact .inr ⟨x, args, at_, f, caps, avs, res, h', hop, hx, ha, hcall, rfl⟩
      ·exact h.elim
     ·split at h
      ·rename_i v hp d hx
       obtain ⟨⟨hc, hd⟩, s', hrun, hG⟩ := h
       refine ⟨hc, s', ⟨_, ?_, hrun⟩, hG⟩
       unfold StepW
       rw [ho]
       dsimp only
       rw [hg]
       exact .inl ⟨_, hx, hd, rfl⟩
      ·exact h.elim
    | false =>
     obtain ⟨hc, s', hrun, hG⟩ := h
     refine ⟨hc, s', ⟨_, ?_, hrun⟩, hG⟩
     unfold StepW
     rw [ho]
     dsimp only
     rw [hg]
   ·exact h.elim
  ·exact h.elim
theorem runW_den {P : Program} {r : Array Oper} {G : S → Prop} : ∀ (n : Nat) {x : StD}, denW P r G (runD P r n x) → denW P r G x
 | 0, x, h => h
 | n + 1, .go l s c, h => stepW_den (runW_den n h)
 | n + 1, .call .., h => h
 | n + 1, .fin .., h => h
 | n + 1, .bad, h => h
theorem den_drawW {P : Program} {E : Entry} {F : S → Prop} {id : Nat} {r : Array Oper} {k : List Item} {s : S} {c : Prop} (U : List (Nat × Nat)) (os : List (List Nat)) (hP : P.follows .mixedOrders = true) (hc : c) (hcov : coverW P r U os = true)
  (h : allDn (fun σ => denW P r (fun s' => den P E F (.go k s' True)) (.go σ s True)) os) : den P E F (.draw id r k s c) := by
 refine ⟨hc, den_mono (wp_drawnW hP hcov (K := fun s' => den P E F (.go k s' True)) fun σ hσ => let ⟨s', h1, h2⟩ := (allDn_mem h σ hσ).2; ⟨s', h1, fun β a w hs => ⟨β, s', h2, hs⟩⟩) fun e s' hk => ?_⟩
 obtain ⟨rfl, hk⟩ := hk
 exact hk.2
theorem den_callW {P : Program} {r : Array Oper} {G : S → Prop} {f : Nat} {avs : List AV} {d : Option Tmp} {l : List Nat} {s : S} {c : Prop} {args0 : List AV} {h0 h0' : Hp} {res0 : AV} (hc : c) (ct : CallA P f args0 h0 res0 h0') (ρ : Rho)
  (hm : avsM ρ args0 avs ∧ hpM ρ s.hp ρ h0) (hsep : sepB ρ h0 = true) (h : denW P r G (.go l (s.put d (some (renAV ρ s.hp.length res0)) (hpCall ρ h0 h0' s.hp)) True)) : denW P r G (.call f avs d l s c) := by
 obtain ⟨_, s', hrun, hG⟩ := h
 exact ⟨hc, _, _, callA_at ct ρ hm.1 hm.2 hsep, s', hrun, hG⟩
end
section
open Go.RowKit

end
section
open Go.RowKit

def idO (N : Nat) : Nat → Rho → Hp → Bool
 | i, [], _ => decide (N ≤ i)
 | i, x :: ρ, h => (match decide (i < N) with
  | true => x == some (i, none)
  | false => match x with
   | none => true
   | some (n, d) => decide (N ≤ n) || (d.isNone && match h with
    | some t :: _ => t.own
    | _ => true)) && idO N (i + 1) ρ h.tail
theorem idO_lt {N : Nat} : ∀ {ρ : Rho} {i : Nat} {h : Hp}, idO N i ρ h = true → (∀ j, i + j < N → ρ[j]? = some (some (i + j, none))) ∧
  (∀ j n d t, N ≤ i + j → ρ[j]? = some (some (n, d)) → h[j]? = some (some t) → N ≤ n ∨ d = none ∧ t.own = true) ∧ N ≤ i + ρ.length
 | [], i, h, hh => by
  simp only [idO, decide_eq_true_eq] at hh
  exact ⟨fun j hj => by omega, fun j n d t _ hr => by simp at hr, by simpa using hh⟩
 | x :: ρ, i, h, hh => by
  unfold idO at hh
  rw [Bool.and_eq_true] at hh
  obtain ⟨h1, h2⟩ := hh
  obtain ⟨a1, a2, a3⟩ := idO_lt h2
  refine ⟨fun j hj => ?_, fun j n d t hj hr ht => ?_, by simp only [List.length_cons]; omega⟩
  ·cases j with
   | zero =>
    rw [decide_eq_true (by omega)] at h1
    dsimp only at h1
    rw [beq_iff_eq] at h1
    simp [h1]
   | succ j =>
    rw [List.getElem?_cons_succ, a1 j (by omega)]
    simp only [Option.some.injEq, Prod.mk.injEq, and_true]
    omega
  ·cases j with
   | zero =>
    rw [decide_eq_false (by omega)] at h1
    simp only [List.getElem?_cons_zero, Option.some.injEq] at hr
    subst hr
    cases h with
    | nil => simp at ht
    | cons y h =>
     simp only [List.getElem?_cons_zero, Option.some.injEq] at ht
     subst ht
     simp only [Bool.or_eq_true, decide_eq_true_eq, Bool.and_eq_true, Option.isNone_iff_eq_none] at h1
     exact h1
   | succ j =>
    rw [List.getElem?_cons_succ] at hr
    refine a2 j n d t (by omega) hr ?_
    cases h with
    | nil => simp at ht
    | cons y h => simpa using ht
def WeakO (ρ : Rho) (n0 : Nat) (t s : S) : Prop := idO n0 0 ρ t.hp = true ∧ sepB ρ t.hp = true ∧ slM ρ t.sl s.sl ∧ hpM ρ s.hp ρ t.hp
theorem weak_mkO {ρ : Rho} {n0 : Nat} {t s : S} (h1 : idO n0 0 ρ t.hp = true) (h2 : sepB ρ t.hp = true) (h : slM ρ t.sl s.sl ∧ hpM ρ s.hp ρ t.hp) : WeakO ρ n0 t s := ⟨h1, h2, h.1, h.2⟩
theorem sim_weakO {E : Entry} {n0 : Nat} (hE : E.h.length = n0) {ρ : Rho} {t s : S} (h : WeakO ρ n0 t s) {β : Be} {a : Act} {w : World} (hs : Sim E β s a w) : Sim E (beOf β ρ) t a w := by
 obtain ⟨hid, hsep, hsl, hhp⟩ := h
 obtain ⟨hlo, hhi, hle⟩ := idO_lt hid
 simp only [Nat.zero_add] at hlo hhi hle
 have hlen := hpM_length hhp
 have hl0 : n0 ≤ t.hp.length := by omega
 refine ⟨hs.dfr, slots_M hsl hs.sl, hsim_M hs.hp hhp hsep, hs.ent, ?_⟩
 have st := hs.st
 refine ⟨fun o p hp => ?_, st.os, st.tape, st.output, st.size, st.block, by rw [hE]; exact hl0, fun o ob hlt ho => ?_, fun o ob p hge ho hp => ?_⟩
 ·have hlt : o < n0 := by rw [← hE, ← hs.ent]; exact (List.getElem?_eq_some_iff.1 hp).1
  have h1 := hlo o hlt
  rw [beOf_get β h1]
  dsimp only
  rw [List.getD_eq_getElem?_getD, st.le o p hp]
  rfl
 ·rw [hE] at hlt
  have h1 := hlo o hlt
  rcases hpM_get hhp ho with ⟨hr, _⟩ | ⟨n, d, ob', hr, hn, hob⟩
  ·rw [h1] at hr; cases hr
  ·rw [h1] at hr
   simp only [Option.some.injEq, Prod.mk.injEq] at hr
   obtain ⟨rfl, rfl⟩ := hr
   obtain ⟨ob0, ho0, hown0⟩ := st.old o ob' (by rw [hE]; exact hlt) hn
   exact ⟨ob0, ho0, fun h => hown0 (obM_own hob h).2⟩
 ·rw [hE] at hge
  rcases hpM_get hhp ho with ⟨hr, _⟩ | ⟨n, d, ob', hr, hn, hob⟩
  ·rw [beOf_get β hr] at hp; cases hp
  ·have hge' := hhi o n d ob hge hr ho
   have fin : ∀ q : Pl, β[n]? = some (some q) → q.blk = p.blk → Own E.β E.h p.blk ∨ E.w.heap.size ≤ p.blk := by
    intro q hq hb
    rcases hge' with hN | ⟨hd, hown⟩
    ·have := st.fresh n ob' q (by rw [hE]; omega) hn hq
     rw [hb] at this
     exact this
    ·rcases Nat.lt_or_ge n n0 with hlt | hge2
     ·obtain ⟨ob0, ho0, hown0⟩ := st.old n ob' (by rw [hE]; exact hlt) hn
      have hlt' : n < E.β.length := by rw [hs.ent, hE]; exact hlt
      have hβ := st.le n E.β[n] (List.getElem?_eq_getElem hlt')
      rw [hq] at hβ
      refine .inl ⟨n, ob0, q, ho0, hown0 (obM_own hob hown).2, ?_, hb⟩
      rw [List.getElem?_eq_getElem hlt', ← Option.some.inj hβ]
     ·have := st.fresh n ob' q (by rw [hE]; omega) hn hq
      rw [hb] at this
      exact this
   rw [beOf_get β hr] at hp
   cases d with
   | none =>
    simp only [Option.some.injEq] at hp
    rw [List.getD_eq_getElem?_getD] at hp
    have hb : β[n]? = some (some p) := by
     cases h : β[n]? with
     | none => rw [h] at hp; cases hp
     | some z => rw [h] at hp; simp only [Option.getD_some] at hp; rw [hp]
    exact fin p hb rfl
   | some d =>
    simp only [Option.some.injEq] at hp
    rw [List.getD_eq_getElem?_getD] at hp
    cases h : β[n]? with
    | none => rw [h] at hp; cases hp
    | some z =>
     rw [h] at hp
     simp only [Option.getD_some] at hp
     cases z with
     | none => cases hp
     | some q =>
      simp only [Option.map_some, Option.some.injEq] at hp
      exact fin q h (by rw [← hp])
theorem den_weakO {P : Program} {E : Entry} {n0 : Nat} (hE : E.h.length = n0) {ρ : Rho} {t s : S} (h : WeakO ρ n0 t s) {C : Code} {K : Exit → S → Prop} (hd : Den P E C t K) : Den P E C s K :=
 fun β a w hs Q hQ => hd _ a w (sim_weakO hE h hs) Q hQ
theorem den_lpO {P : Program} {E : Entry} {F : S → Prop} {b : Code} {k : List Item} {s : S} {c : Prop} {ι : Type} (n0 : Nat) (hE : E.h.length = n0) (mk : S → ι → S) (J : ι → Prop) (μ : ι → Nat) (i0 : ι) (ρ0 : Rho) (hc : c) (hJ : J i0) (h0 : WeakO ρ0 n0 (mk s i0) s)
  (h : ∀ i, J i → ∀ N : S → Prop, (∀ (s' : S) (j : ι) (ρ : Rho), J j → μ j < μ i → WeakO ρ n0 (mk s j) s' → N s') → den P E F (.go (.code b :: .hook N :: k) (mk s i) True)) : den P E F (.lp b k s c) := by
 refine ⟨hc, den_loop (fun _ => True) (fun s' n => ∃ i ρ, J i ∧ WeakO ρ n0 (mk s i) s' ∧ μ i = n) (μ i0) ⟨trivial, i0, ρ0, hJ, h0, rfl⟩ fun s' n _ ⟨i, ρ, hi, hw, hn⟩ => ?_⟩
 have hd := (h i hi (fun s'' => ∃ j ρ, J j ∧ μ j < μ i ∧ WeakO ρ n0 (mk s j) s'') fun s'' j ρ' hj hlt hw' => ⟨j, ρ', hj, hlt, hw'⟩).2
 refine den_weakO hE hw (den_mono hd fun e s'' hk => ?_)
 cases e with
 | normal =>
  obtain ⟨j, ρ', hj, hlt, hw'⟩ := hk
  exact ⟨trivial, μ j, by omega, j, ρ', hj, hw', rfl⟩
 | _ => exact hk
def EndO (P : Program) (rs : List ResultVar) (n0 : Nat) (res : AV) (h' : Hp) (s : S) : Prop :=
 ∃ v ρ, aRes P s rs = some v ∧ idO n0 0 ρ h' = true ∧ sepB ρ h' = true ∧ avM ρ res v ∧ hpM ρ s.hp ρ h'
theorem den_finO {P : Program} {E : Entry} {rs : List ResultVar} {n0 : Nat} {res : AV} {h' : Hp} {s : S} {c : Prop} (ρ : Rho) (hc : c) (v : AV) (hr : aRes P s rs = some v) (hid : idO n0 0 ρ h' = true) (hsep : sepB ρ h' = true) (hm : avM ρ res v ∧ hpM ρ s.hp ρ h') :
  den P E (EndO P rs n0 res h') (.fin s c) := ⟨hc, v, ρ, hr, hid, hsep, hm.1, hm.2⟩
theorem callA_ofO {P : Program} {f : FuncId} {fn : Func} {c : Code} (hf : P.funcs[f]? = some fn) (hname : (fn.name == "runtime.NumGoroutine") = false) (hb : fn.body = some c) {args : List AV} {h h' : Hp} {res : AV}
  (H : ∀ E : Entry, E.h.length = h.length → den P E (EndO P fn.results.toList h.length res h') (.go [.code c] ⟨initS fn.ntmps args, h⟩ True)) : CallA P f args h res h' := by
 refine ⟨⟨fn, hf, hname, by rw [hb]; rfl⟩, fun β w vs hs hvs => ?_⟩
 refine calls_of_wp hf hb ?_
 let E : Entry := ⟨β, h, w⟩
 have hd := (H E rfl).2
 refine hd β _ w ⟨rfl, initS_R hvs, hs, hs.len, StepR.refl β h w hs.len⟩ _ fun e s' β' a' w' hK hs' => ?_
 have key : EndO P fn.results.toList h.length res h' s' → a'.defers = [] ∧ ∃ v, (results fn a'.tmps).run P w' = .ok v w' ∧ ∃ β'' u, Ending.returned v = .returned u ∧ AVR β'' res u ∧ HSim β'' h' w' ∧ StepR β β'' h h' w w' := by
  intro ⟨v, ρ, hr, hid, hsep, hav, hhp⟩
  obtain ⟨u, hrun, hu⟩ := aRes_R hs'.hp hs'.sl hr
  have hsim := sim_weakO (E := E) rfl (t := ⟨[], h'⟩) (s := ⟨[], s'.hp⟩) ⟨hid, hsep, trivial, hhp⟩ (β := β') (a := a') (w := w') ⟨hs'.dfr, ⟨fun i hi => by simp [Slots.has] at hi, fun i x hx => by simp [Slots.get] at hx⟩, hs'.hp, hs'.ent, hs'.st⟩
  exact ⟨hs'.dfr, u, hrun, beOf β' ρ, u, rfl, avM_R hav hu, hsim.hp, hsim.st⟩
 cases e with
 | normal => exact key hK
 | ret => exact key hK
 | _ => exact hK.elim
end
section
open Go.RowKit

def isT (T : Nat) (t : Operand) : Bool := match t with
 | .tmp i => i == T
 | _ => false
def isR (T : Nat) (a b : Code) : Bool := match a with
 | .region id _ _ => match b with
  | .cond _ _ _ => id + 1000 == T
  | _ => false
 | _ => false
def stopC (T : Nat) (c : Code) : Bool := match c with
 | .cond t _ _ => isT T t
 | .seq a b => isR T a b
 | _ => false
def stopK (T : Nat) (k : List Item) : Bool := match k with
 | .code c :: _ => stopC T c
 | _ => false
theorem isR_eq (T : Nat) (a b : Code) : isR T a b = match a with
 | .region id _ _ => match b with
  | .cond _ _ _ => id + 1000 == T
  | _ => false
 | _ => false := rfl
theorem isT_eq (T : Nat) (t : Operand) : isT T t = match t with
 | .tmp i => i == T
 | _ => false := rfl
theorem stopC_eq (T : Nat) (c : Code) : stopC T c = match c with
 | .cond t _ _ => isT T t
 | .seq a b => isR T a b
 | _ => false := rfl
theorem stopK_eq (T : Nat) (k : List Item) : stopK T k = match k with
 | .code c :: _ => stopC T c
 | _ => false := rfl
def runS (P : Program) (T : Nat) : Nat → St → St
 | 0, x => x
 | n + 1, .go k s c => match stopK T k with
  | true => .go k s c
  | false => runS P T n (stepG P k s c)
 | _ + 1, .fin s c => .fin s c
 | _ + 1, .call f a d k s c => .call f a d k s c
 | _ + 1, .lp b k s c => .lp b k s c
 | _ + 1, .hk N s c => .hk N s c
 | _ + 1, .draw id r k s c => .draw id r k s c
 | _ + 1, .gl r o l k s c => .gl r o l k s c
 | _ + 1, .bad => .bad
theorem runS_den {P : Program} {E : Entry} {F : S → Prop} (T : Nat) : ∀ (n : Nat) {x : St}, den P E F (runS P T n x) → den P E F x
 | 0, x, h => h
 | n + 1, .go k s c, h => by
  unfold runS at h
  split at h
  ·exact h
  ·have h' := runS_den T n h
   exact run_den 1 h'
 | _ + 1, .fin s c, h => h
 | _ + 1, .call f a d k s c, h => h
 | _ + 1, .lp b k s c, h => h
 | _ + 1, .hk N s c, h => h
 | _ + 1, .draw id r k s c, h => h
 | _ + 1, .gl r o l k s c, h => h
 | _ + 1, .bad, h => h
attribute [go_sem] runS isT_eq isR_eq stopC_eq stopK_eq
def okK : List Item → Bool
 | .code _ :: _ => true
 | .inB _ :: k => okK k
 | _ => false
theorem kk_weakO {P : Program} {E : Entry} {F : Exit → S → Prop} {n0 : Nat} (hE : E.h.length = n0) {ρ : Rho} {t s : S} (h : WeakO ρ n0 t s) : ∀ {k : List Item}, okK k = true → KK P E F k .normal t → KK P E F k .normal s
 | [], hk, _ => by cases hk
 | .code C :: k, _, hd => den_weakO hE h hd
 | .inB _ :: k, hk, hd => kk_weakO hE h (k := k) hk hd
 | .ops _ _ :: k, hk, _ => by cases hk
 | .hook _ :: k, hk, _ => by cases hk
theorem den_joinO {P : Program} {E : Entry} {F : S → Prop} {C : Code} {k : List Item} {s : S} {c : Prop} (n0 : Nat) (hE : E.h.length = n0) (mk : S → S) (hc : c) (hok : okK k = true)
  (hb : ∀ N : S → Prop, (∀ (s' : S) (ρ : Rho), WeakO ρ n0 (mk s) s' → N s') → den P E F (.go (.code C :: .hook N :: k) s True))
  (hk : den P E F (.go k (mk s) True)) : den P E F (.go (.code C :: k) s c) := by
 refine ⟨hc, ?_⟩
 have h1 := (hb (fun s' => ∃ ρ, WeakO ρ n0 (mk s) s') fun s' ρ h => ⟨ρ, h⟩).2
 refine den_mono h1 fun e s' he => ?_
 cases e with
 | normal =>
  obtain ⟨ρ, hw⟩ := he
  exact kk_weakO hE hw hok hk.2
 | _ => exact he
end
section
open Go.RowKit

theorem before_asym {a b : Nat} (h : a ≠ b) : ∀ {l : List Nat}, before l a b = true → before l b a = true → False
 | [], x, y => by
  simp only [before, decide_eq_true_eq] at x y
  omega
 | i :: l, x, y => by
  simp only [before] at x y
  by_cases ha : i = a
  ·subst ha
   rw [if_neg h, if_pos rfl] at y
   cases y
  ·rw [if_neg ha] at x
   by_cases hb : i = b
   ·rw [if_pos hb] at x
    cases x
   ·rw [if_neg hb] at x
    rw [if_neg hb, if_neg ha] at y
    exact before_asym h x y
theorem before_trans {a b c : Nat} (h1 : a ≠ b) (h2 : b ≠ c) (h3 : a ≠ c) : ∀ {l : List Nat}, before l a b = true → before l b c = true → before l a c = true
 | [], x, y => by
  simp only [before, decide_eq_true_eq] at x y ⊢
  omega
 | i :: l, x, y => by
  simp only [before] at x y ⊢
  by_cases ha : i = a
  ·rw [if_pos ha]
  ·rw [if_neg ha] at x ⊢
   by_cases hb : i = b
   ·rw [if_pos hb] at x
    cases x
   ·rw [if_neg hb] at x y
    by_cases hc : i = c
    ·rw [if_pos hc] at y
     cases y
    ·rw [if_neg hc] at y ⊢
     exact before_trans h1 h2 h3 x y
def pathB (C : List (Nat × Nat)) : Nat → Nat → Nat → Bool
 | 0, _, _ => false
 | n + 1, a, b => C.any fun u => u.1 == a && (u.2 == b || pathB C n u.2 b)
theorem pathB_before {C : List (Nat × Nat)} {l : List Nat} (hC : ∀ u ∈ C, u.1 ≠ u.2 ∧ before l u.1 u.2 = true) : ∀ (n a b : Nat), pathB C n a b = true → a ≠ b ∧ before l a b = true
 | 0, _, _, h => by simp [pathB] at h
 | n + 1, a, b, h => by
  simp only [pathB] at h
  obtain ⟨u, hu, hh⟩ := List.any_eq_true.1 h
  simp only [Bool.and_eq_true, Bool.or_eq_true, beq_iff_eq] at hh
  obtain ⟨h0, hh⟩ := hh
  obtain ⟨h1, h2⟩ := hC u hu
  rw [h0] at h1 h2
  rcases hh with h5 | h5
  ·rw [h5] at h1 h2
   exact ⟨h1, h2⟩
  ·obtain ⟨h3, h4⟩ := pathB_before hC n _ _ h5
   by_cases he : a = b
   ·rw [he] at h1 h2
    exact (before_asym h1 h2 h4).elim
   ·exact ⟨he, before_trans h1 h3 he h2 h4⟩
def badK (X : List (Nat × Nat)) : List (Nat × Nat) → Bool
 | [] => false
 | u :: ex => pathB (ex ++ X) 8 u.2 u.1
def covK (P : Program) (r : Array Oper) (T : List Nat) (X : List (Nat × Nat)) (os : List (List Nat)) : List (Nat × Nat) → List (Nat × Nat) → Bool
 | [], ex => badK X ex || os.any fun σ => okL P r T ex σ
 | u :: U, ex => badK X ex || (covK P r T X os U (u :: ex) && covK P r T X os U ((u.2, u.1) :: ex))
theorem badK_false {X ex : List (Nat × Nat)} {l : List Nat} (hX : ∀ u ∈ X, u.1 ≠ u.2 ∧ before l u.1 u.2 = true) (hex : ∀ u ∈ ex, u.1 ≠ u.2 ∧ before l u.1 u.2 = true) (h : badK X ex = true) : False := by
 cases ex with
 | nil => simp [badK] at h
 | cons u ex =>
  simp only [badK] at h
  obtain ⟨h1, h2⟩ := pathB_before (l := l) (fun v hv => by
   rcases List.mem_append.1 hv with hv | hv
   ·exact hex v (List.mem_cons_of_mem _ hv)
   ·exact hX v hv) _ _ _ h
  exact before_asym h1 h2 (hex u (List.mem_cons_self ..)).2
theorem covK_sound {P : Program} {r : Array Oper} {T : List Nat} {X : List (Nat × Nat)} {os : List (List Nat)} {l : List Nat} (hX : ∀ u ∈ X, u.1 ≠ u.2 ∧ before l u.1 u.2 = true) :
  ∀ {U ex : List (Nat × Nat)}, (∀ u ∈ U, u.1 ≠ u.2) → (∀ u ∈ ex, u.1 ≠ u.2 ∧ before l u.1 u.2 = true) → covK P r T X os U ex = true → ∃ ex' : List (Nat × Nat), (∀ u ∈ ex', u.1 ≠ u.2 ∧ before l u.1 u.2 = true) ∧ ∃ σ ∈ os, okL P r T ex' σ = true
 | [], ex, hU, hex, h => by
  simp only [covK, Bool.or_eq_true] at h
  rcases h with h | h
  ·exact (badK_false hX hex h).elim
  ·obtain ⟨σ, h1, h2⟩ := List.any_eq_true.1 h
   exact ⟨ex, hex, σ, h1, h2⟩
 | (x, y) :: U, ex, hU, hex, h => by
  simp only [covK, Bool.or_eq_true, Bool.and_eq_true] at h
  rcases h with h | ⟨ha, hb⟩
  ·exact (badK_false hX hex h).elim
  ·have hne : x ≠ y := hU (x, y) (List.mem_cons_self ..)
   rcases before_total hne (l := l) with h3 | h3
   ·refine covK_sound hX (fun u hu => hU u (List.mem_cons_of_mem _ hu)) (fun u hu => ?_) ha
    rcases List.mem_cons.1 hu with rfl | hu
    ·exact ⟨hne, h3⟩
    ·exact hex u hu
   ·refine covK_sound hX (fun u hu => hU u (List.mem_cons_of_mem _ hu)) (fun u hu => ?_) hb
    rcases List.mem_cons.1 hu with rfl | hu
    ·exact ⟨hne.symm, h3⟩
    ·exact hex u hu
def coverK (P : Program) (r : Array Oper) (U X : List (Nat × Nat)) (os : List (List Nat)) : Bool :=
 backB r && U.all (fun u => u.1 != u.2) && X.all (fun u => u.1 != u.2 && (edgeB r u.1 u.2 && decide (u.1 < r.size))) && os.all (fun σ => σ.length == r.size && (List.range r.size).all σ.contains && σ.all fun i => decide (i < r.size)) &&
 (let T := clo r; covK P r T X os U [])
theorem wp_drawnX {P : Program} {E : Entry} {id : Nat} {r : Array Oper} {U X : List (Nat × Nat)} {os : List (List Nat)} (hP : P.follows .mixedOrders = true) (hcov : coverK P r U X os = true) {s : S} {K : S → Prop}
  (h : ∀ σ ∈ os, ∃ s', RunN P r σ s s' ∧ ∀ β a w, Sim E β s' a w → ∃ β' t, K t ∧ Sim E β' t a w) : Den P E (.region id r true) s fun e s' => e = .normal ∧ K s' := by
 intro β a w hs Q hQ
 refine wp_region_draw fun t => ?_
 simp only [Region.schedule, hP, Bool.true_or, if_true]
 simp only [coverK, Bool.and_eq_true] at hcov
 obtain ⟨⟨⟨⟨hback, hU⟩, hX⟩, hperm⟩, hch⟩ := hcov
 have hd := drawn_go (r := r) r.size t (Array.replicate r.size false)
 have hXb : ∀ v ∈ X, v.1 ≠ v.2 ∧ before (Region.linearise .any r t) v.1 v.2 = true := by
  intro v hv
  have hx := List.all_eq_true.1 hX v hv
  simp only [Bool.and_eq_true, bne_iff_ne, ne_eq, decide_eq_true_eq] at hx
  obtain ⟨h1, h5, h6⟩ := hx
  refine ⟨h1, ?_⟩
  unfold edgeB at h5
  split at h5
  ·rename_i o ho
   obtain ⟨e, he, he2⟩ := List.any_eq_true.1 h5
   simp only [Bool.and_eq_true, beq_iff_eq] at he2
   exact drawn_before hback hd ho he he2.1 he2.2 (by simp) (by simp [Array.getD_eq_getD_getElem?, h6])
  ·cases h5
 obtain ⟨ex, hbef, σ, hσ, hok⟩ := covK_sound hXb (fun u hu => by
  have := List.all_eq_true.1 hU u hu
  simpa using this) (fun u hu => by cases hu) hch
 have hp := List.all_eq_true.1 hperm σ hσ
 simp only [Bool.and_eq_true, beq_iff_eq, List.all_eq_true, List.mem_range, decide_eq_true_eq] at hp
 obtain ⟨⟨hlen, hall⟩, hlt⟩ := hp
 obtain ⟨s', hrun, hK⟩ := h σ hσ
 have hs2 : Sim E β s a { w with drawn := w.drawn + 1 } := ⟨hs.dfr, hs.sl, ⟨hs.hp.len, hs.hp.ob, hs.hp.flat, hs.hp.apart⟩, hs.ent, ⟨hs.st.le, hs.st.os, hs.st.tape, hs.st.output, hs.st.size, hs.st.block, hs.st.len, hs.st.old, hs.st.fresh⟩⟩
 refine ops_of_run hback (fun β' a' w' hs' => let ⟨β2, t2, hk2, hs2⟩ := hK β' a' w' hs'; hQ .normal t2 β2 a' w' ⟨rfl, hk2⟩ hs2) (Region.linearise .any r t) r.size _ σ s β a _ hd (by simp) (by omega) (fun i => ?_) (fun i o ho hl => ?_) hok (fun p q hpq _ _ => (hbef (p, q) (List.contains_iff_mem.1 hpq)).2) hrun hs2
 ·constructor
  ·intro hi
   refine ⟨hlt i hi, ?_⟩
   simp [Array.getD_eq_getD_getElem?, hlt i hi]
  ·rintro ⟨hi, _⟩
   simpa using hall i hi
 ·exfalso
  simp only [Array.getD_eq_getD_getElem?, Array.getElem?_replicate] at hl
  split at hl <;> cases hl
theorem den_drawX {P : Program} {E : Entry} {F : S → Prop} {id : Nat} {r : Array Oper} {C : Code} {k : List Item} {s : S} {c : Prop} (U X : List (Nat × Nat)) (os : List (List Nat)) (n0 : Nat) (hE : E.h.length = n0) (mk : S → S) (hP : P.follows .mixedOrders = true) (hc : c) (hcov : coverK P r U X os = true)
  (h : allDn (fun σ => denD P r (fun s' => ∃ ρ, WeakO ρ n0 (mk s) s') (.go σ s True)) os) (ht : den P E F (.go (.code C :: k) (mk s) True)) : den P E F (.draw id r (.code C :: k) s c) := by
 refine ⟨hc, den_mono (wp_drawnX hP hcov (K := fun s' => ∃ ρ, WeakO ρ n0 (mk s) s') fun σ hσ => let ⟨s', h1, h2⟩ := (allDn_mem h σ hσ).2; ⟨s', h1, fun β a w hs => ⟨β, s', h2, hs⟩⟩) fun e s' hk => ?_⟩
 obtain ⟨rfl, ρ, hw⟩ := hk
 exact den_weakO hE hw ht.2
end
section
open Go.RowKit

def qA (l : List Nat) : Rho := l.map fun n => some (n, none)
attribute [go_sem] qA
theorem qC {c : Prop} (h : c := by (try simp (disch := omega) only [go_sem, List.length_set, Nat.reduceEqDiff, Nat.reduceAdd, Nat.reduceSub, Int.reduceAdd, Int.reduceSub, Int.reduceToNat, Nat.reduceBEq]) <;> omega) : c := h
theorem qM {c : Prop} (h : c := by simp only [go_sem]; repeat' first | rfl | constructor | (rw [List.map_set]; rfl) | (simp [List.map_take, List.map_drop] <;> omega)) : c := h
theorem qX {p q : Prop} (h : q) (e : q → p := by intro h; (try simp (disch := omega) only [go_sem, Nat.reduceEqDiff, Nat.reduceAdd, Nat.reduceSub, Int.reduceAdd, Int.reduceSub, Int.reduceToNat, Nat.reduceBEq]); exact h) : p := e h
theorem qY {p : Prop} (e : p := by simp (disch := omega) only [go_sem, Nat.reduceEqDiff, Nat.reduceAdd, Nat.reduceSub, Int.reduceAdd, Int.reduceSub, Int.reduceToNat, Nat.reduceBEq]) : p := e
theorem qB {p c1 c2 : Prop} {q1 : c1 → Prop} {q2 : c2 → Prop} (h1 : ∀ h, q1 h) (h2 : ∀ h, q2 h) (e : (∀ h, q1 h) → (∀ h, q2 h) → p := by
 intro h1 h2; split <;> rename_i h <;> (try simp only [beq_true, beq_false, Bool.not_eq_true', Bool.not_eq_false'] at h) <;> simp (disch := omega) only [go_sem, Nat.reduceEqDiff, Nat.reduceAdd, Nat.reduceSub, Int.reduceAdd, Int.reduceSub, Int.reduceToNat, Nat.reduceBEq, h] <;> (try simp only [decide_eq_true_eq, decide_eq_false_iff_not, beq_iff_eq, beq_eq_false_iff_ne, bne_iff_ne, bne_eq_false_iff_eq, ne_eq, Decidable.not_not, Bool.and_eq_true, Bool.and_eq_false_iff, Bool.or_eq_true, Bool.or_eq_false_iff, Int.ofNat_lt, Int.ofNat_le, Bool.not_eq_eq_eq_not, Bool.not_true, Bool.not_false] at h) <;> (try simp (disch := omega) only [go_sem, Nat.reduceEqDiff, Nat.reduceAdd, Nat.reduceSub, Int.reduceAdd, Int.reduceSub, Int.reduceToNat, Nat.reduceBEq]) <;> first | exact h1 h | exact h2 h) : p := e h1 h2
section
variable {P : Program} {E : Entry} {F : S → Prop} {c q : Prop}
theorem qR {x : St} (h : q) (e : q → den P E F (run P 400 x) := by intro h; (try simp (disch := omega) only [go_sem, Nat.reduceEqDiff, Nat.reduceAdd, Nat.reduceSub, Int.reduceAdd, Int.reduceSub, Int.reduceToNat, Nat.reduceBEq]); exact h) : den P E F x := run_den 400 (e h)
theorem qG {x : St} (h : q) (e : q → den P E F (run P 400 x) := by intro h; (try simp (disch := omega) only [go_sem, Nat.reduceEqDiff, Nat.reduceAdd, Nat.reduceSub, Int.reduceAdd, Int.reduceSub, Int.reduceToNat, Nat.reduceBEq]); exact h) (hc : c := by (try simp (disch := omega) only [go_sem, List.length_set, Nat.reduceEqDiff, Nat.reduceAdd, Nat.reduceSub, Int.reduceAdd, Int.reduceSub, Int.reduceToNat, Nat.reduceBEq]) <;> omega) : c ∧ den P E F x := ⟨hc, run_den 400 (e h)⟩
theorem qE {f : FuncId} {fn : Func} {C : Code} (hf : P.funcs[f]? = some fn) {nt : Nat} {rs : Array ResultVar} (hn : fn.ntmps = nt) (hr : fn.results = rs) {args : List AV} {h h' : Hp} {res : AV} {Q : Entry → Prop} (H : ∀ E : Entry, E.h.length = h.length → Q E)
  (hname : (fn.name == "runtime.NumGoroutine") = false := by kernel_rfl) (hb : fn.body = some C := by rfl)
  (e : ∀ E : Entry, Q E → den P E (EndF P rs.toList h.length res h') (run P 400 (.go [.code C] ⟨initS nt args, h⟩ True)) := by intro E h; simp (disch := omega) only [go_sem, Nat.reduceEqDiff, Nat.reduceAdd, Nat.reduceSub, Int.reduceAdd, Int.reduceSub, Int.reduceToNat, Nat.reduceBEq]; exact h) : CallA P f args h res h' := by
 subst hn; subst hr; exact callA_of hf hname hb fun E hE => run_den 400 (e E (H E hE))
theorem qEO {f : FuncId} {fn : Func} {C : Code} (hf : P.funcs[f]? = some fn) {nt : Nat} {rs : Array ResultVar} (hn : fn.ntmps = nt) (hr : fn.results = rs) {args : List AV} {h h' : Hp} {res : AV} {Q : Entry → Prop} (H : ∀ E : Entry, E.h.length = h.length → Q E)
  (hname : (fn.name == "runtime.NumGoroutine") = false := by kernel_rfl) (hb : fn.body = some C := by rfl)
  (e : ∀ E : Entry, Q E → den P E (EndO P rs.toList h.length res h') (run P 400 (.go [.code C] ⟨initS nt args, h⟩ True)) := by intro E h; simp (disch := omega) only [go_sem, Nat.reduceEqDiff, Nat.reduceAdd, Nat.reduceSub, Int.reduceAdd, Int.reduceSub, Int.reduceToNat, Nat.reduceBEq]; exact h) : CallA P f args h res h' := by
 subst hn; subst hr; exact callA_ofO hf hname hb fun E hE => run_den 400 (e E (H E hE))
theorem qF {rs : List ResultVar} {n0 : Nat} {res v : AV} {h' : Hp} {s : S} (ρ : Rho) (hr : aRes P s rs = some v := by simp only [go_sem]; rfl) (hid : idB n0 0 ρ = true := by rfl) (hsep : sepB ρ h' = true := by rfl) (hm : avM ρ res v ∧ hpM ρ s.hp ρ h' := by simp (disch := omega) only [go_sem, Nat.reduceEqDiff, Nat.reduceAdd, Nat.reduceSub, Int.reduceAdd, Int.reduceSub, Int.reduceToNat, Nat.reduceBEq])
  (hc : c := by (try simp (disch := omega) only [go_sem, List.length_set, Nat.reduceEqDiff, Nat.reduceAdd, Nat.reduceSub, Int.reduceAdd, Int.reduceSub, Int.reduceToNat, Nat.reduceBEq]) <;> omega) : den P E (EndF P rs n0 res h') (.fin s c) := den_fin ρ hc v hr hid hsep hm
theorem qFO {rs : List ResultVar} {n0 : Nat} {res v : AV} {h' : Hp} {s : S} (ρ : Rho) (hr : aRes P s rs = some v := by simp only [go_sem]; rfl) (hid : idO n0 0 ρ h' = true := by rfl) (hsep : sepB ρ h' = true := by rfl) (hm : avM ρ res v ∧ hpM ρ s.hp ρ h' := by simp (disch := omega) only [go_sem, Nat.reduceEqDiff, Nat.reduceAdd, Nat.reduceSub, Int.reduceAdd, Int.reduceSub, Int.reduceToNat, Nat.reduceBEq])
  (hc : c := by (try simp (disch := omega) only [go_sem, List.length_set, Nat.reduceEqDiff, Nat.reduceAdd, Nat.reduceSub, Int.reduceAdd, Int.reduceSub, Int.reduceToNat, Nat.reduceBEq]) <;> omega) : den P E (EndO P rs n0 res h') (.fin s c) := den_finO ρ hc v hr hid hsep hm
theorem qJ {rs : List ResultVar} {n0 : Nat} {res v : AV} {h' : Hp} {s : S} (ρ : Rho) (h : q) (hr : aRes P s rs = some v := by simp only [go_sem]; rfl) (hid : idB n0 0 ρ = true := by rfl) (hsep : sepB ρ h' = true := by rfl) (hm : q → avM ρ res v ∧ hpM ρ s.hp ρ h' := by intro h; simp (disch := omega) only [go_sem, Nat.reduceEqDiff, Nat.reduceAdd, Nat.reduceSub, Int.reduceAdd, Int.reduceSub, Int.reduceToNat, Nat.reduceBEq]; exact h)
  (hc : c := by (try simp (disch := omega) only [go_sem, List.length_set, Nat.reduceEqDiff, Nat.reduceAdd, Nat.reduceSub, Int.reduceAdd, Int.reduceSub, Int.reduceToNat, Nat.reduceBEq]) <;> omega) : den P E (EndF P rs n0 res h') (.fin s c) := den_fin ρ hc v hr hid hsep (hm h)
theorem qK {f : FuncId} {avs : List AV} {d : Option Tmp} {k : List Item} {s : S} {args0 : List AV} {h0 h0' : Hp} {res0 : AV} (ct : CallA P f args0 h0 res0 h0') (ρ : Rho) (h : q)
  (e : q → den P E F (run P 400 (.go k (s.put d (some (renAV ρ s.hp.length res0)) (hpCall ρ h0 h0' s.hp)) True)) := by intro h; simp (disch := omega) only [go_sem, Nat.reduceEqDiff, Nat.reduceAdd, Nat.reduceSub, Int.reduceAdd, Int.reduceSub, Int.reduceToNat, Nat.reduceBEq]; exact h)
  (hm : avsM ρ args0 avs ∧ hpM ρ s.hp ρ h0 := by simp only [go_sem]; repeat' first | rfl | constructor | (rw [List.map_set]; rfl) | (simp [List.map_take, List.map_drop] <;> omega)) (hsep : sepB ρ h0 = true := by rfl)
  (hc : c := by (try simp (disch := omega) only [go_sem, List.length_set, Nat.reduceEqDiff, Nat.reduceAdd, Nat.reduceSub, Int.reduceAdd, Int.reduceSub, Int.reduceToNat, Nat.reduceBEq]) <;> omega) : den P E F (.call f avs d k s c) := den_call hc ct ρ hm hsep (run_den 400 (e h))
theorem qKD {r : Array Oper} {G : S → Prop} {f : Nat} {avs : List AV} {d : Option Tmp} {l : List Nat} {s : S} {args0 : List AV} {h0 h0' : Hp} {res0 : AV} (ct : CallA P f args0 h0 res0 h0') (ρ : Rho) (h : q)
  (e : q → denD P r G (runD P r 400 (.go l (s.put d (some (renAV ρ s.hp.length res0)) (s.hp ++ renHp ρ s.hp.length (h0'.drop h0.length))) True)) := by intro h; simp (disch := omega) only [go_sem, Nat.reduceEqDiff, Nat.reduceAdd, Nat.reduceSub, Int.reduceAdd, Int.reduceSub, Int.reduceToNat, Nat.reduceBEq]; exact h)
  (hm : avsM ρ args0 avs ∧ hpM ρ s.hp ρ h0 := by simp only [go_sem]; repeat' first | rfl | constructor | (rw [List.map_set]; rfl) | (simp [List.map_take, List.map_drop] <;> omega)) (hsep : sepB ρ h0 = true := by rfl) (hno : noOwn h0 = true := by rfl)
  (hc : c := by (try simp (disch := omega) only [go_sem, List.length_set, Nat.reduceEqDiff, Nat.reduceAdd, Nat.reduceSub, Int.reduceAdd, Int.reduceSub, Int.reduceToNat, Nat.reduceBEq]) <;> omega) : denD P r G (.call f avs d l s c) := den_callD hc ct ρ hm hsep hno (runD_den 400 (e h))
theorem qD {id : Nat} {r : Array Oper} {k : List Item} {s : S} (σ : List Nat) (h : q)
  (e : q → denD P r (fun s' => den P E F (.go k s' True)) (runD P r 400 (.go σ s True)) := by intro h; simp (disch := omega) only [go_sem, Nat.reduceEqDiff, Nat.reduceAdd, Nat.reduceSub, Int.reduceAdd, Int.reduceSub, Int.reduceToNat, Nat.reduceBEq]; exact h)
  (hP : P.follows .mixedOrders = true := by kernel_rfl) (hcov : coverB P r [] [σ] = true := by kernel_rfl) (hc : c := by (try simp (disch := omega) only [go_sem, List.length_set, Nat.reduceEqDiff, Nat.reduceAdd, Nat.reduceSub, Int.reduceAdd, Int.reduceSub, Int.reduceToNat, Nat.reduceBEq]) <;> omega) : den P E F (.draw id r k s c) := den_draw1 σ hP hc hcov (runD_den 400 (e h))
theorem qN {ι : Type} {N : S → Prop} {n0 : Nat} {s1 : S} {A B : ι → Prop} {mk : ι → S} (hN : ∀ (s' : S) (j : ι) (ρ : Rho), A j → B j → WeakS ρ n0 (mk j) s' → N s') (j : ι) (ρ : Rho) (hJ : A j) (hμ : B j := by (try dsimp only); omega)
  (h1 : idB n0 0 ρ = true := by rfl) (h2 : sepB ρ (mk j).hp = true := by rfl) (hm : slM ρ (mk j).sl s1.sl ∧ hpM ρ s1.hp ρ (mk j).hp := by simp (disch := omega) only [go_sem, Nat.reduceEqDiff, Nat.reduceAdd, Nat.reduceSub, Int.reduceAdd, Int.reduceSub, Int.reduceToNat, Nat.reduceBEq])
  (hc : c := by (try simp (disch := omega) only [go_sem, List.length_set, Nat.reduceEqDiff, Nat.reduceAdd, Nat.reduceSub, Int.reduceAdd, Int.reduceSub, Int.reduceToNat, Nat.reduceBEq]) <;> omega) : c ∧ N s1 := ⟨hc, hN _ j ρ hJ hμ (weak_mk h1 h2 hm)⟩
theorem qNO {ι : Type} {N : S → Prop} {n0 : Nat} {s1 : S} {A B : ι → Prop} {mk : ι → S} (hN : ∀ (s' : S) (j : ι) (ρ : Rho), A j → B j → WeakO ρ n0 (mk j) s' → N s') (j : ι) (ρ : Rho) (hJ : A j) (hμ : B j := by (try dsimp only); omega)
  (h1 : idO n0 0 ρ (mk j).hp = true := by rfl) (h2 : sepB ρ (mk j).hp = true := by rfl) (hm : slM ρ (mk j).sl s1.sl ∧ hpM ρ s1.hp ρ (mk j).hp := by simp (disch := omega) only [go_sem, Nat.reduceEqDiff, Nat.reduceAdd, Nat.reduceSub, Int.reduceAdd, Int.reduceSub, Int.reduceToNat, Nat.reduceBEq])
  (hc : c := by (try simp (disch := omega) only [go_sem, List.length_set, Nat.reduceEqDiff, Nat.reduceAdd, Nat.reduceSub, Int.reduceAdd, Int.reduceSub, Int.reduceToNat, Nat.reduceBEq]) <;> omega) : c ∧ N s1 := ⟨hc, hN _ j ρ hJ hμ (weak_mkO h1 h2 hm)⟩
end
end
section
open Go.ChangeShapes Go.WideShapes Go.ChangeAt Go.RowKit

abbrev I64 (n : Int) : Prop := -9223372036854775808 ≤ n ∧ n ≤ 9223372036854775807

inductive L0 where
 | int | bool | str | byte
deriving DecidableEq
inductive L1 where
 | one (l : L0) | sl (ls : List L0)
deriving DecidableEq

def L1.plain : L1 → Option L0
 | .one l => some l
 | .sl _ => none
def plains : List L1 → Option (List L0)
 | [] => some []
 | .one l :: r => (plains r).map (l :: ·)
 | .sl _ :: _ => none

def flatFs (P : Program) (g : TypeId → Option (List L1)) : List Field → Nat → Option (List L1)
 | [], _ => some []
 | f :: r, o =>
  if f.offset = o then
   match g f.type with
   | some l => if P.cellsOf f.type = l.length then (flatFs P g r (o + l.length)).map (l ++ ·) else none
   | none => none
  else none
def flat (P : Program) : Nat → TypeId → Option (List L1)
 | 0, _ => none
 | n + 1, t =>
  match P.underlying t with
  | some (.int .i64) => some [.one .int]
  | some (.int .u8) => some [.one .byte]
  | some .bool => some [.one .bool]
  | some .string => some [.one .str]
  | some (.struct fs) => match flatFs P (flat P n) fs.toList 0 with
   | some l => if P.cellsOf t = l.length then some l else none
   | none => none
  | some (.slice e) =>
   match flat P n e with
   | some l => match plains l with
    | some l0 => if P.cellsOf e = l0.length ∧ 0 < l0.length then some [.sl l0] else none
    | none => none
   | none => none
  | _ => none

def See0 : L0 → Value → Prop
 | .int, v => ∃ n, v = .int .i64 n ∧ I64 n
 | .byte, v => ∃ n, v = .int .u8 n ∧ 0 ≤ n ∧ n ≤ 255
 | .bool, v => ∃ b, v = .bool b
 | .str, v => ∃ s : ByteArray, v = .string s ∧ s.size ≤ maxLen
def See0s : List L0 → List Value → Prop
 | [], cs => cs = []
 | l :: r, cs => ∃ v cs', cs = v :: cs' ∧ See0 l v ∧ See0s r cs'
def SeeSl (w : World) (ls : List L0) (v : Value) : Prop :=
 ∃ A n c, v = .slice A n c ∧ n ≤ c ∧ c ≤ maxLen ∧
  (c = 0 ∨ ∃ b off arr T fz, A = some ⟨b, off, none⟩ ∧ w.heap[b]? = some (.cells arr T fz) ∧ ∀ i, i < n → ∃ cs, See0s ls cs ∧ cs.length = ls.length ∧ ∀ (j : Nat) (v : Value), cs[j]? = some v → arr[off + i * ls.length + j]? = some v)
def See1 (w : World) : L1 → Value → Prop
 | .one l, v => See0 l v
 | .sl ls, v => SeeSl w ls v
def See1s (w : World) : List L1 → List Value → Prop
 | [], cs => cs = []
 | l :: r, cs => ∃ v cs', cs = v :: cs' ∧ See1 w l v ∧ See1s w r cs'

theorem See1s.length {w : World} : ∀ {l : List L1} {cs : List Value}, See1s w l cs → cs.length = l.length
 | [], _, h => by unfold See1s at h; subst h; rfl
 | _ :: r, _, h => by obtain ⟨v, cs', rfl, _, h'⟩ := h; simp [h'.length]
theorem See0s.length : ∀ {l : List L0} {cs : List Value}, See0s l cs → cs.length = l.length
 | [], _, h => by unfold See0s at h; subst h; rfl
 | _ :: r, _, h => by obtain ⟨v, cs', rfl, _, h'⟩ := h; simp [h'.length]
theorem See1s.append {w : World} : ∀ {l : List L1} {k : List L1} {cs ds : List Value}, See1s w l cs → See1s w k ds → See1s w (l ++ k) (cs ++ ds)
 | [], _, _, _, h, h' => by unfold See1s at h; subst h; exact h'
 | _ :: r, _, _, _, h, h' => by obtain ⟨v, cs', rfl, hv, hr⟩ := h; exact ⟨v, _, rfl, hv, hr.append h'⟩
theorem See1s.plain {w : World} : ∀ {l : List L1} {l0 : List L0} {cs : List Value}, plains l = some l0 → See1s w l cs → See0s l0 cs
 | [], l0, _, h, h' => by simp [plains] at h; subst h; exact h'
 | .one a :: r, l0, _, h, h' => by
  simp only [plains, Option.map_eq_some_iff] at h
  obtain ⟨r0, hr, rfl⟩ := h
  obtain ⟨v, cs', rfl, hv, hr'⟩ := h'
  exact ⟨v, cs', rfl, hv, hr'.plain hr⟩
 | .sl _ :: _, _, _, h, _ => by simp [plains] at h

section
variable {H : Type} {enc : TypeId × Value → H} {P : Program} {w : World} {base : Nat} {held : Bool}
abbrev spareAll : Nat → Bool := fun _ => true

theorem wf_i64 {n : Int} (h : (Lit.int .i64 n).wf = true) : I64 n := by
 have := bounds_i64 h
 exact this

theorem see_of_flatFs {g : TypeId → Option (List L1)} {n : Nat} (hg : ∀ t l cs x, g t = some l → DataW.trod enc P w base spareAll held n t cs = some x → See1s w l cs) :
  ∀ (fs : List Field) (o : Nat) (l : List L1) (cs : List Value), flatFs P g fs o = some l → cs.length = o + l.length →
   (∀ (i : Nat) (f : Field), fs[i]? = some f → ∃ x, DataW.trod enc P w base spareAll held n f.type ((cs.drop f.offset).take (P.cellsOf f.type)) = some x) → See1s w l (cs.drop o)
 | [], o, l, cs, h, hl, _ => by
  simp only [flatFs, Option.some.injEq] at h
  subst h
  simp only [List.length_nil, Nat.add_zero] at hl
  simp [See1s, hl]
 | f :: r, o, l, cs, h, hl, hf => by
  simp only [flatFs] at h
  split at h
  ·rename_i ho
   split at h
   ·rename_i l1 hl1
    split at h
    ·rename_i hc
     simp only [Option.map_eq_some_iff] at h
     obtain ⟨l2, h2, rfl⟩ := h
     obtain ⟨x, hx⟩ := hf 0 f rfl
     have s1 := hg _ _ _ _ hl1 hx
     have s2 := see_of_flatFs hg r (o + l1.length) l2 cs h2 (by rw [hl]; simp; omega) (fun i f' hi => hf (i + 1) f' hi)
     rw [ho, hc] at s1
     have e : cs.drop o = (cs.drop o).take l1.length ++ cs.drop (o + l1.length) := by
      rw [← List.drop_drop, List.take_append_drop]
     rw [e]
     exact s1.append s2
    ·cases h
   ·cases h
  ·cases h

theorem see_of_flat : ∀ (n fuel : Nat) (t : TypeId) (l : List L1) (cs : List Value) (x : DataW H × List MemPlace), flat P n t = some l →
  DataW.trod enc P w base spareAll held fuel t cs = some x → See1s w l cs := by
 intro n
 induction n with
 | zero => intro fuel t l cs x h; simp [flat] at h
 | succ n ih =>
  intro fuel t l cs x h ht
  unfold flat at h
  split at h
  ·rename_i hu
   simp only [Option.some.injEq] at h; subst h
   obtain ⟨k, rfl, rfl, hw⟩ := DataW.trod_int hu ht
   exact ⟨_, [], rfl, ⟨k, rfl, wf_i64 hw⟩, rfl⟩
  ·rename_i hu
   simp only [Option.some.injEq] at h; subst h
   obtain ⟨k, rfl, rfl, hw⟩ := DataW.trod_int hu ht
   exact ⟨_, [], rfl, ⟨k, rfl, bounds_u8 hw⟩, rfl⟩
  ·rename_i hu
   simp only [Option.some.injEq] at h; subst h
   obtain ⟨b, rfl, rfl⟩ := DataW.trod_bool hu ht
   exact ⟨_, [], rfl, ⟨b, rfl⟩, rfl⟩
  ·rename_i hu
   simp only [Option.some.injEq] at h; subst h
   obtain ⟨s, rfl, rfl, hs⟩ := DataW.trod_string hu ht
   exact ⟨_, [], rfl, ⟨s, rfl, hs⟩, rfl⟩
  ·rename_i fs hu
   obtain ⟨xs, m, rfl, rfl, hlen, hxl, hi⟩ := DataW.trod_struct hu ht
   split at h
   ·rename_i l' hl'
    split at h
    ·rename_i hcl
     simp only [Option.some.injEq] at h; subst h
     have hl : cs.length = 0 + l'.length := by omega
     have := see_of_flatFs (enc := enc) (P := P) (w := w) (base := base) (held := held) (n := m) (fun t l cs x h1 h2 => ih _ t l cs x h1 h2) fs.toList 0 l' cs hl' hl (fun i f hf => by
      have hf' : fs[i]? = some f := by simpa using hf
      have hlt : i < xs.length := by rw [hxl]; exact (Array.getElem?_eq_some_iff.1 hf').1
      exact ⟨xs[i], by rw [hi i f hf', List.getElem?_eq_getElem hlt]⟩)
     simpa using this
    ·cases h
   ·cases h
  ·rename_i e hu
   split at h
   ·rename_i l1 hl1
    split at h
    ·rename_i l0 hl0
     split at h
     ·rename_i hc
      simp only [Option.some.injEq] at h; subst h
      rcases DataW.trod_slice hu ht with ⟨rfl, _⟩ | ⟨a, len, cap, elems, rest, m, rfl, rfl, _, _, h1, h2, h3, h4, h5, _⟩
      ·exact ⟨_, [], rfl, ⟨none, 0, 0, rfl, Nat.le_refl _, by unfold maxLen; omega, .inl rfl⟩, rfl⟩
      ·refine ⟨_, [], rfl, ⟨some a, len, cap, rfl, h1, h2, ?_⟩, rfl⟩
       by_cases hz : cap = 0
       ·exact .inl hz
       ·right
        obtain ⟨hrl, hrest⟩ := h5 rfl
        have here : ∀ (k : Nat) (o : Option (DataW H × List MemPlace)), (w.cells? base (a.add (k * P.cellsOf e)) (P.cellsOf e)).bind (DataW.trod enc P w base spareAll held m e) = o → o.isSome = true →
          ∃ ds, See0s l0 ds ∧ ds.length = l0.length ∧ ∀ j, j < l0.length → w.cell? ((a.add (k * l0.length)).add j) = ds[j]? := by
         intro k o ho hs
         cases o with
         | none => cases hs
         | some y =>
          simp only [Option.bind_eq_some_iff] at ho
          obtain ⟨ds, hd, hd2⟩ := ho
          obtain ⟨_, hdl, hdc⟩ := World.cells?_some hd
          rw [hc.1] at hdl hdc
          exact ⟨ds, (ih _ _ _ _ _ hl1 hd2).plain hl0, hdl, hdc⟩
        have key : ∀ i, i < len → ∃ ds, See0s l0 ds ∧ ds.length = l0.length ∧ ∀ j, j < l0.length → w.cell? ((a.add (i * l0.length)).add j) = ds[j]? := by
         intro i hi
         exact here i _ (h4 i hi) (by rw [List.getElem?_eq_getElem (by omega)]; rfl)
        have key0 : ∃ ds : List Value, ds.length = l0.length ∧ ∀ j, j < l0.length → w.cell? ((a.add (0 * l0.length)).add j) = ds[j]? := by
         by_cases hl0' : 0 < len
         ·obtain ⟨ds, _, h6, h7⟩ := key 0 hl0'
          exact ⟨ds, h6, h7⟩
         ·obtain ⟨ds, _, h6, h7⟩ := here (len + 0) _ (hrest 0 (by omega)) (by rw [List.getElem?_eq_getElem (by omega)]; rfl)
          have e0 : len + 0 = 0 := by omega
          rw [e0] at h7
          exact ⟨ds, h6, h7⟩
        obtain ⟨ds0, hd0, hc0⟩ := key0
        have hcell := hc0 0 hc.2
        rw [List.getElem?_eq_getElem (by omega)] at hcell
        obtain ⟨b, off, spot⟩ := a
        have hspot : spot = none := by simpa [Addr.add] using World.cell?_spot hcell
        subst hspot
        simp only [add_plain] at hcell
        have hblk : ∃ arr T fz, w.heap[b]? = some (.cells arr T fz) := by
         unfold World.cell? at hcell
         split at hcell
         ·rename_i hh
          exact ⟨_, _, _, hh⟩
         ·cases hcell
        obtain ⟨arr, T, fz, hh⟩ := hblk
        refine ⟨b, off, arr, T, fz, rfl, hh, ?_⟩
        intro i hi
        obtain ⟨ds, hs, hdl, hdc⟩ := key i hi
        refine ⟨ds, hs, hdl, fun j v hv => ?_⟩
        have hj : j < l0.length := by rw [← hdl]; exact (List.getElem?_eq_some_iff.1 hv).1
        have := hdc j hj
        simp only [add_plain] at this
        have hcv : w.cell? ⟨b, off + i * l0.length + j, none⟩ = arr[off + i * l0.length + j]? := by simp [World.cell?, hh]
        rw [← hcv, this, hv]
     ·cases h
    ·cases h
   ·cases h
  ·cases h
end
end
section
open Go.ChangeShapes Go.WideShapes Go.ChangeAt Go.RowKit


def intC (n : Int) : List Sc := [.int .i64 n]
def byteC (n : UInt8) : List Sc := [.int .u8 n.toNat]
def FlatEnc {α : Type} (enc : α → List Sc) : Prop := ∀ x, flatC (enc x) = true
theorem flatL_map {α : Type} {enc : α → List Sc} (h : FlatEnc enc) (l : List α) : FlatL (l.map enc) := by
 intro c hc
 obtain ⟨x, _, rfl⟩ := List.mem_map.1 hc
 exact h x
theorem map_get {α : Type} {enc : α → List Sc} {l : List α} {k : Nat} (h : k < l.length) : (l.map enc)[k]? = some (enc l[k]) := by simp [h]
theorem exists_list {α : Type} (n : Nat) (R : Nat → α → Prop) (h : ∀ i, i < n → ∃ x, R i x) : ∃ xs : List α, xs.length = n ∧ ∀ i x, xs[i]? = some x → R i x := by
 induction n with
 | zero => exact ⟨[], rfl, fun i x h => by simp at h⟩
 | succ n ih =>
  obtain ⟨xs, hl, hx⟩ := ih (fun i hi => h i (by omega))
  obtain ⟨x, hn⟩ := h n (by omega)
  refine ⟨xs ++ [x], by simp [hl], fun i y hy => ?_⟩
  by_cases hi : i < n
  ·rw [List.getElem?_append_left (by omega)] at hy
   exact hx i y hy
  ·rw [List.getElem?_append_right (by omega)] at hy
   have : i - xs.length = 0 := by
    have h1 := (List.getElem?_eq_some_iff.1 hy).1
    simp at h1; omega
   rw [this] at hy
   simp at hy
   have e : i = n := by omega
   subst e; subst hy
   exact hn
structure SlIn {α : Type} (w : World) (enc : α → List Sc) (sz : Nat) (v : Value) (xs : List α) (p : Option Pl) : Prop where
 val : ∀ (β : Be) (o : Nat), β[o]? = some p → ScR β (.sl o 0 xs.length) v
 ob : ∀ (β : Be) (ty : TypeId), ObR β w p ⟨xs.map enc, sz, ty, false, true⟩
theorem see_slx {α : Type} {w : World} (enc : α → List Sc) (ls : List L0) (W : α → Prop) (hf : FlatEnc enc) (conv : ∀ cs, See0s ls cs → ∃ x, L2 (ScR []) (enc x) cs ∧ W x) {v : Value} (h : SeeSl w ls v) :
  ∃ (xs : List α) (p : Option Pl), SlIn w enc ls.length v xs p ∧ xs.length ≤ maxLen ∧ ∀ x ∈ xs, W x := by
 obtain ⟨A, n, c, rfl, hl, hm, hz⟩ := h
 rcases hz with rfl | ⟨b, off, arr, T, fz, rfl, hh, hi⟩
 ·have hn : n = 0 := by omega
  subst hn
  exact ⟨[], none, ⟨fun β o _ => ⟨A, 0, rfl, Nat.le_refl _, Nat.zero_le _, .inl rfl⟩, fun β ty => rfl⟩, Nat.zero_le _, by simp⟩
 ·obtain ⟨xs, rfl, hx⟩ := exists_list n (fun i x => W x ∧ ∃ cs, L2 (ScR []) (enc x) cs ∧ cs.length = ls.length ∧ ∀ (j : Nat) (v : Value), cs[j]? = some v → arr[off + i * ls.length + j]? = some v) (fun i h => by
   obtain ⟨cs, hs, hl, hc⟩ := hi i h
   obtain ⟨x, hr, hw⟩ := conv cs hs
   exact ⟨x, hw, cs, hr, hl, hc⟩)
  refine ⟨xs, some ⟨b, off, ls.length, c * ls.length⟩, ⟨fun β o ho => ⟨_, c, rfl, hl, hm, .inr ⟨_, ho, by simp, by simp⟩⟩, fun β ty => ⟨rfl, arr, T, fz, hh, ?_, fun h => by cases h⟩⟩, by omega, fun x h => ?_⟩
  ·intro k e hk
   simp only [List.getElem?_map, Option.map_eq_some_iff] at hk
   obtain ⟨x, hx', rfl⟩ := hk
   obtain ⟨_, cs, hr, hcl, hc⟩ := hx k x hx'
   refine ⟨hr.length.trans hcl, fun j s hs => ?_⟩
   obtain ⟨v, hv, hrv⟩ := hr.get hs
   exact ⟨v, hc j v hv, flat_R (flatC_mem.1 (hf x) s (List.mem_of_getElem? hs)) hrv⟩
  ·obtain ⟨i, hi, rfl⟩ := List.getElem_of_mem h
   exact (hx i _ (List.getElem?_eq_getElem hi)).1
theorem hsim_ro {β : Be} {h : Hp} {w : World} (hl : β.length = h.length) (hob : ∀ (o : Nat) (ob : AObj) (p : Option Pl), h[o]? = some (some ob) → β[o]? = some p → ob.own = false ∧ ObR β w p ob ∧ FlatL ob.cs) : HSim β h w := by
 have bp : ∀ {o : Nat} {x : Option AObj}, h[o]? = some x → ∃ p, β[o]? = some p := fun {o x} hx => ⟨β[o]'(by rw [hl]; exact (List.getElem?_eq_some_iff.1 hx).1), List.getElem?_eq_getElem _⟩
 refine ⟨hl, fun o ob ho => ?_, fun o ob ho _ => ?_, fun o o' ob ob' p p' ho _ hown _ _ _ => ?_⟩
 ·obtain ⟨p, hp⟩ := bp ho
  exact ⟨p, hp, (hob o ob p ho hp).2.1⟩
 ·obtain ⟨p, hp⟩ := bp ho
  exact (hob o ob p ho hp).2.2
 ·obtain ⟨q, hq⟩ := bp ho
  rw [(hob o ob q ho hq).1] at hown
  cases hown
def RoL (β : Be) (w : World) : Be → Hp → Prop
 | [], [] => True
 | p :: l, some ob :: h => (ob.own = false ∧ ObR β w p ob ∧ FlatL ob.cs) ∧ RoL β w l h
 | _, _ => False
theorem roL_get {β : Be} {w : World} : ∀ {l : Be} {h : Hp}, RoL β w l h → l.length = h.length ∧ ∀ (o : Nat) (ob : AObj) (p : Option Pl), h[o]? = some (some ob) → l[o]? = some p → ob.own = false ∧ ObR β w p ob ∧ FlatL ob.cs
 | [], [], _ => ⟨rfl, fun o ob p h => by simp at h⟩
 | q :: l, some x :: h, hr => by
  obtain ⟨h1, h2⟩ := roL_get hr.2
  refine ⟨by simp [h1], fun o ob p ho hp => ?_⟩
  cases o with
  | zero =>
   simp only [List.getElem?_cons_zero, Option.some.injEq] at ho hp
   subst ho; subst hp
   exact hr.1
  | succ o => exact h2 o ob p (by simpa using ho) (by simpa using hp)
 | [], _ :: _, h => h.elim
 | _ :: _, [], h => h.elim
 | _ :: _, none :: _, h => h.elim
theorem hsim_roL {β : Be} {w : World} {h : Hp} (hr : RoL β w β h) : HSim β h w := hsim_ro (roL_get hr).1 (roL_get hr).2
structure RoadD where
 own : Int
 far : Int
 port : Int
deriving DecidableEq, Inhabited
def RoadD.cs (x : RoadD) : List Sc := [.int .i64 x.own, .int .i64 x.far, .int .i64 x.port]
def RoadD.wf (x : RoadD) : Prop := I64 x.own ∧ I64 x.far ∧ I64 x.port
def RoadD.ls : List L0 := [.int, .int, .int]
theorem RoadD.flat : FlatEnc RoadD.cs := fun _ => rfl
structure AddrD where
 id : Int
 addr : Int
 spare : Bool
 told : Bool
deriving DecidableEq, Inhabited
def AddrD.cs (x : AddrD) : List Sc := [.int .i64 x.id, .int .i64 x.addr, .bo x.spare, .bo x.told]
def AddrD.wf (x : AddrD) : Prop := I64 x.id ∧ I64 x.addr
def AddrD.ls : List L0 := [.int, .int, .bool, .bool]
theorem AddrD.flat : FlatEnc AddrD.cs := fun _ => rfl
structure PolicyD where
 kind : Int
 many : Int
deriving DecidableEq, Inhabited
def PolicyD.cs (x : PolicyD) : List Sc := [.int .i64 x.kind, .int .i64 x.many]
def PolicyD.wf (x : PolicyD) : Prop := I64 x.kind ∧ I64 x.many
def PolicyD.ls : List L0 := [.int, .int]
theorem PolicyD.flat : FlatEnc PolicyD.cs := fun _ => rfl
structure BucketD where
 rate : Int
 burst : Int
 cur : Int
deriving DecidableEq, Inhabited
def BucketD.cs (x : BucketD) : List Sc := [.int .i64 x.rate, .int .i64 x.burst, .int .i64 x.cur]
def BucketD.wf (x : BucketD) : Prop := I64 x.rate ∧ I64 x.burst ∧ I64 x.cur
def BucketD.ls : List L0 := [.int, .int, .int]
theorem BucketD.flat : FlatEnc BucketD.cs := fun _ => rfl
structure HalfD where
 road : RoadD
 theirs : Int
 mine : Int
 give : Int
 take : Int
 till : Int
deriving DecidableEq, Inhabited
def HalfD.cs (x : HalfD) : List Sc := [.int .i64 x.road.own, .int .i64 x.road.far, .int .i64 x.road.port, .int .i64 x.theirs, .int .i64 x.mine, .int .i64 x.give, .int .i64 x.take, .int .i64 x.till]
def HalfD.wf (x : HalfD) : Prop := I64 x.road.own ∧ I64 x.road.far ∧ I64 x.road.port ∧ I64 x.theirs ∧ I64 x.mine ∧ I64 x.give ∧ I64 x.take ∧ I64 x.till
def HalfD.ls : List L0 := [.int, .int, .int, .int, .int, .int, .int, .int]
theorem HalfD.flat : FlatEnc HalfD.cs := fun _ => rfl
structure TagD where
 kind : Int
 one : Int
 two : Int
 a : Int
 b : Int
deriving DecidableEq, Inhabited
def TagD.cs (x : TagD) : List Sc := [.int .i64 x.kind, .int .i64 x.one, .int .i64 x.two, .int .i64 x.a, .int .i64 x.b]
def TagD.wf (x : TagD) : Prop := I64 x.kind ∧ I64 x.one ∧ I64 x.two ∧ I64 x.a ∧ I64 x.b
def TagD.ls : List L0 := [.int, .int, .int, .int, .int]
theorem TagD.flat : FlatEnc TagD.cs := fun _ => rfl
structure LetterD where
 kind : Int
 frm : Int
 to : Int
 port : Int
 key : Int
 token : Int
 nonce : Int
 give : Int
 sgn : Int
 tag : TagD
 id : Int
 addr : Int
 spare : Bool
 pos : Int
 text : List UInt8
deriving DecidableEq, Inhabited
def LetterD.cs (x : LetterD) : List Sc := [.int .i64 x.kind, .int .i64 x.frm, .int .i64 x.to, .int .i64 x.port, .int .i64 x.key, .int .i64 x.token, .int .i64 x.nonce, .int .i64 x.give, .int .i64 x.sgn, .int .i64 x.tag.kind, .int .i64 x.tag.one, .int .i64 x.tag.two, .int .i64 x.tag.a, .int .i64 x.tag.b, .int .i64 x.id, .int .i64 x.addr, .bo x.spare, .int .i64 x.pos, .st x.text]
def LetterD.wf (x : LetterD) : Prop := I64 x.kind ∧ I64 x.frm ∧ I64 x.to ∧ I64 x.port ∧ I64 x.key ∧ I64 x.token ∧ I64 x.nonce ∧ I64 x.give ∧ I64 x.sgn ∧ I64 x.tag.kind ∧ I64 x.tag.one ∧ I64 x.tag.two ∧ I64 x.tag.a ∧ I64 x.tag.b ∧ I64 x.id ∧ I64 x.addr ∧ I64 x.pos ∧ x.text.length ≤ maxLen
def LetterD.ls : List L0 := [.int, .int, .int, .int, .int, .int, .int, .int, .int, .int, .int, .int, .int, .int, .int, .int, .bool, .int, .str]
theorem LetterD.flat : FlatEnc LetterD.cs := fun _ => rfl
structure SubD where
 road : RoadD
 state : Int
 spare : Bool
 mine : Int
 theirs : Int
 give : Int
 take : Int
 tries : Int
deriving DecidableEq, Inhabited
def SubD.cs (x : SubD) : List Sc := [.int .i64 x.road.own, .int .i64 x.road.far, .int .i64 x.road.port, .int .i64 x.state, .bo x.spare, .int .i64 x.mine, .int .i64 x.theirs, .int .i64 x.give, .int .i64 x.take, .int .i64 x.tries]
def SubD.wf (x : SubD) : Prop := I64 x.road.own ∧ I64 x.road.far ∧ I64 x.road.port ∧ I64 x.state ∧ I64 x.mine ∧ I64 x.theirs ∧ I64 x.give ∧ I64 x.take ∧ I64 x.tries
def SubD.ls : List L0 := [.int, .int, .int, .int, .bool, .int, .int, .int, .int, .int]
theorem SubD.flat : FlatEnc SubD.cs := fun _ => rfl
structure PieceD where
 pos : Int
 text : List UInt8
deriving DecidableEq, Inhabited
def PieceD.cs (x : PieceD) : List Sc := [.int .i64 x.pos, .st x.text]
def PieceD.wf (x : PieceD) : Prop := I64 x.pos ∧ x.text.length ≤ maxLen
def PieceD.ls : List L0 := [.int, .str]
theorem PieceD.flat : FlatEnc PieceD.cs := fun _ => rfl
structure OutD where
 text : List UInt8
 base : Int
 sent : Int
 room : Int
deriving DecidableEq, Inhabited
def OutD.cs (x : OutD) : List Sc := [.st x.text, .int .i64 x.base, .int .i64 x.sent, .int .i64 x.room]
def OutD.wf (x : OutD) : Prop := x.text.length ≤ maxLen ∧ I64 x.base ∧ I64 x.sent ∧ I64 x.room
def OutD.ls : List L0 := [.str, .int, .int, .int]
theorem OutD.flat : FlatEnc OutD.cs := fun _ => rfl
structure ActD where
 kind : Int
 side : Int
 pos : Int
 many : Int
 text : List UInt8
 addr : AddrD
 letter : LetterD
deriving DecidableEq, Inhabited
def ActD.cs (x : ActD) : List Sc := [.int .i64 x.kind, .int .i64 x.side, .int .i64 x.pos, .int .i64 x.many, .st x.text, .int .i64 x.addr.id, .int .i64 x.addr.addr, .bo x.addr.spare, .bo x.addr.told, .int .i64 x.letter.kind, .int .i64 x.letter.frm, .int .i64 x.letter.to, .int .i64 x.letter.port, .int .i64 x.letter.key, .int .i64 x.letter.token, .int .i64 x.letter.nonce, .int .i64 x.letter.give, .int .i64 x.letter.sgn, .int .i64 x.letter.tag.kind, .int .i64 x.letter.tag.one, .int .i64 x.letter.tag.two, .int .i64 x.letter.tag.a, .int .i64 x.letter.tag.b, .int .i64 x.letter.id, .int .i64 x.letter.addr, .bo x.letter.spare, .int .i64 x.letter.pos, .st x.letter.text]
def ActD.wf (x : ActD) : Prop := I64 x.kind ∧ I64 x.side ∧ I64 x.pos ∧ I64 x.many ∧ x.text.length ≤ maxLen ∧ I64 x.addr.id ∧ I64 x.addr.addr ∧ I64 x.letter.kind ∧ I64 x.letter.frm ∧ I64 x.letter.to ∧ I64 x.letter.port ∧ I64 x.letter.key ∧ I64 x.letter.token ∧ I64 x.letter.nonce ∧ I64 x.letter.give ∧ I64 x.letter.sgn ∧ I64 x.letter.tag.kind ∧ I64 x.letter.tag.one ∧ I64 x.letter.tag.two ∧ I64 x.letter.tag.a ∧ I64 x.letter.tag.b ∧ I64 x.letter.id ∧ I64 x.letter.addr ∧ I64 x.letter.pos ∧ x.letter.text.length ≤ maxLen
def ActD.ls : List L0 := [.int, .int, .int, .int, .str, .int, .int, .bool, .bool, .int, .int, .int, .int, .int, .int, .int, .int, .int, .int, .int, .int, .int, .int, .int, .int, .bool, .int, .str]
theorem ActD.flat : FlatEnc ActD.cs := fun _ => rfl
attribute [go_sem] intC RoadD.cs AddrD.cs PolicyD.cs BucketD.cs HalfD.cs TagD.cs LetterD.cs SubD.cs PieceD.cs OutD.cs ActD.cs
end
section
theorem tl_2 : tload Tryz.prog 2 = some none := by kernel_rfl
theorem ts_2 : tst Tryz.prog 2 = some 1 := by kernel_rfl
theorem tz_2 : tz Tryz.prog 2 = some [.int .i64 0] := by kernel_rfl
theorem tl_3 : tload Tryz.prog 3 = some none := by kernel_rfl
theorem ts_3 : tst Tryz.prog 3 = some 1 := by kernel_rfl
theorem tz_3 : tz Tryz.prog 3 = some [.int .i64 0] := by kernel_rfl
theorem tl_4 : tload Tryz.prog 4 = some none := by kernel_rfl
theorem ts_4 : tst Tryz.prog 4 = some 1 := by kernel_rfl
theorem tz_4 : tz Tryz.prog 4 = some [.bo false] := by kernel_rfl
theorem tbo_4 : tbool Tryz.prog 4 = true := by kernel_rfl
theorem tl_5 : tload Tryz.prog 5 = some none := by kernel_rfl
theorem ts_5 : tst Tryz.prog 5 = some 1 := by kernel_rfl
theorem tz_5 : tz Tryz.prog 5 = some [.int .u8 0] := by kernel_rfl
theorem tl_9 : tload Tryz.prog 9 = some none := by kernel_rfl
theorem ts_9 : tst Tryz.prog 9 = some 1 := by kernel_rfl
theorem tz_9 : tz Tryz.prog 9 = some [.st []] := by kernel_rfl
theorem tstr_9 : tstr Tryz.prog 9 = true := by kernel_rfl
theorem tl_12 : tload Tryz.prog 12 = some none := by kernel_rfl
theorem ts_12 : tst Tryz.prog 12 = some 1 := by kernel_rfl
theorem tz_12 : tz Tryz.prog 12 = some [.int .u64 0] := by kernel_rfl
theorem tl_21 : tload Tryz.prog 21 = some none := by kernel_rfl
theorem ts_21 : tst Tryz.prog 21 = some 1 := by kernel_rfl
theorem tz_21 : tz Tryz.prog 21 = some [.int .i32 0] := by kernel_rfl
theorem tl_22 : tload Tryz.prog 22 = some none := by kernel_rfl
theorem ts_22 : tst Tryz.prog 22 = some 1 := by kernel_rfl
theorem tz_22 : tz Tryz.prog 22 = some [.nil] := by kernel_rfl
theorem tsl_22 : tsl Tryz.prog 22 = some (5, 1) := by kernel_rfl
theorem tl_24 : tload Tryz.prog 24 = some (some 2) := by kernel_rfl
theorem ts_24 : tst Tryz.prog 24 = some 2 := by kernel_rfl
theorem tz_24 : tz Tryz.prog 24 = some [.int .i64 0, .int .i64 0] := by kernel_rfl
theorem tsz_24 : tsz Tryz.prog 24 = 2 := by kernel_rfl
theorem tag_24 : tagg Tryz.prog 24 = true := by kernel_rfl
theorem tb_24 : tbuild Tryz.prog 24 = some [.int .i64 0, .int .i64 0] := by kernel_rfl
theorem tf_24_0 : tfld Tryz.prog 24 0 = some (0, 1) := by kernel_rfl
theorem tf_24_1 : tfld Tryz.prog 24 1 = some (1, 1) := by kernel_rfl
theorem tl_25 : tload Tryz.prog 25 = some (some 2) := by kernel_rfl
theorem ts_25 : tst Tryz.prog 25 = some 2 := by kernel_rfl
theorem tz_25 : tz Tryz.prog 25 = some [.int .i64 0, .int .i64 0] := by kernel_rfl
theorem tsz_25 : tsz Tryz.prog 25 = 2 := by kernel_rfl
theorem tag_25 : tagg Tryz.prog 25 = true := by kernel_rfl
theorem tb_25 : tbuild Tryz.prog 25 = some [.int .i64 0, .int .i64 0] := by kernel_rfl
theorem tf_25_0 : tfld Tryz.prog 25 0 = some (0, 1) := by kernel_rfl
theorem tf_25_1 : tfld Tryz.prog 25 1 = some (1, 1) := by kernel_rfl
theorem tl_26 : tload Tryz.prog 26 = some none := by kernel_rfl
theorem ts_26 : tst Tryz.prog 26 = some 1 := by kernel_rfl
theorem tz_26 : tz Tryz.prog 26 = some [.nil] := by kernel_rfl
theorem tsl_26 : tsl Tryz.prog 26 = some (59, 28) := by kernel_rfl
theorem tl_29 : tload Tryz.prog 29 = some none := by kernel_rfl
theorem ts_29 : tst Tryz.prog 29 = some 1 := by kernel_rfl
theorem tz_29 : tz Tryz.prog 29 = some [.nil] := by kernel_rfl
theorem tsl_29 : tsl Tryz.prog 29 = some (53, 4) := by kernel_rfl
theorem tl_30 : tload Tryz.prog 30 = some none := by kernel_rfl
theorem ts_30 : tst Tryz.prog 30 = some 1 := by kernel_rfl
theorem tz_30 : tz Tryz.prog 30 = some [.nil] := by kernel_rfl
theorem tsl_30 : tsl Tryz.prog 30 = some (132, 10) := by kernel_rfl
theorem tl_31 : tload Tryz.prog 31 = some none := by kernel_rfl
theorem ts_31 : tst Tryz.prog 31 = some 1 := by kernel_rfl
theorem tz_31 : tz Tryz.prog 31 = some [.nil] := by kernel_rfl
theorem tsl_31 : tsl Tryz.prog 31 = some (164, 8) := by kernel_rfl
theorem tl_32 : tload Tryz.prog 32 = some (some 3) := by kernel_rfl
theorem ts_32 : tst Tryz.prog 32 = some 3 := by kernel_rfl
theorem tz_32 : tz Tryz.prog 32 = some [.int .i64 0, .int .i64 0, .int .i64 0] := by kernel_rfl
theorem tsz_32 : tsz Tryz.prog 32 = 3 := by kernel_rfl
theorem tag_32 : tagg Tryz.prog 32 = true := by kernel_rfl
theorem tb_32 : tbuild Tryz.prog 32 = some [.int .i64 0, .int .i64 0, .int .i64 0] := by kernel_rfl
theorem tf_32_0 : tfld Tryz.prog 32 0 = some (0, 1) := by kernel_rfl
theorem tf_32_1 : tfld Tryz.prog 32 1 = some (1, 1) := by kernel_rfl
theorem tf_32_2 : tfld Tryz.prog 32 2 = some (2, 1) := by kernel_rfl
theorem tl_33 : tload Tryz.prog 33 = some (some 3) := by kernel_rfl
theorem ts_33 : tst Tryz.prog 33 = some 3 := by kernel_rfl
theorem tz_33 : tz Tryz.prog 33 = some [.int .i64 0, .int .i64 0, .int .i64 0] := by kernel_rfl
theorem tsz_33 : tsz Tryz.prog 33 = 3 := by kernel_rfl
theorem tag_33 : tagg Tryz.prog 33 = true := by kernel_rfl
theorem tb_33 : tbuild Tryz.prog 33 = some [.int .i64 0, .int .i64 0, .int .i64 0] := by kernel_rfl
theorem tf_33_0 : tfld Tryz.prog 33 0 = some (0, 1) := by kernel_rfl
theorem tf_33_1 : tfld Tryz.prog 33 1 = some (1, 1) := by kernel_rfl
theorem tf_33_2 : tfld Tryz.prog 33 2 = some (2, 1) := by kernel_rfl
theorem tl_34 : tload Tryz.prog 34 = some (some 4) := by kernel_rfl
theorem ts_34 : tst Tryz.prog 34 = some 4 := by kernel_rfl
theorem tz_34 : tz Tryz.prog 34 = some [.st [], .int .i64 0, .int .i64 0, .int .i64 0] := by kernel_rfl
theorem tsz_34 : tsz Tryz.prog 34 = 4 := by kernel_rfl
theorem tag_34 : tagg Tryz.prog 34 = true := by kernel_rfl
theorem tb_34 : tbuild Tryz.prog 34 = some [.st [], .int .i64 0, .int .i64 0, .int .i64 0] := by kernel_rfl
theorem tf_34_0 : tfld Tryz.prog 34 0 = some (0, 1) := by kernel_rfl
theorem tf_34_1 : tfld Tryz.prog 34 1 = some (1, 1) := by kernel_rfl
theorem tf_34_2 : tfld Tryz.prog 34 2 = some (2, 1) := by kernel_rfl
theorem tf_34_3 : tfld Tryz.prog 34 3 = some (3, 1) := by kernel_rfl
theorem tl_35 : tload Tryz.prog 35 = some (some 4) := by kernel_rfl
theorem ts_35 : tst Tryz.prog 35 = some 4 := by kernel_rfl
theorem tz_35 : tz Tryz.prog 35 = some [.st [], .int .i64 0, .int .i64 0, .int .i64 0] := by kernel_rfl
theorem tsz_35 : tsz Tryz.prog 35 = 4 := by kernel_rfl
theorem tag_35 : tagg Tryz.prog 35 = true := by kernel_rfl
theorem tb_35 : tbuild Tryz.prog 35 = some [.st [], .int .i64 0, .int .i64 0, .int .i64 0] := by kernel_rfl
theorem tf_35_0 : tfld Tryz.prog 35 0 = some (0, 1) := by kernel_rfl
theorem tf_35_1 : tfld Tryz.prog 35 1 = some (1, 1) := by kernel_rfl
theorem tf_35_2 : tfld Tryz.prog 35 2 = some (2, 1) := by kernel_rfl
theorem tf_35_3 : tfld Tryz.prog 35 3 = some (3, 1) := by kernel_rfl
theorem tl_36 : tload Tryz.prog 36 = some none := by kernel_rfl
theorem ts_36 : tst Tryz.prog 36 = some 1 := by kernel_rfl
theorem tz_36 : tz Tryz.prog 36 = some [.nil] := by kernel_rfl
theorem tsl_36 : tsl Tryz.prog 36 = some (179, 2) := by kernel_rfl
theorem tl_37 : tload Tryz.prog 37 = some (some 3) := by kernel_rfl
theorem ts_37 : tst Tryz.prog 37 = some 3 := by kernel_rfl
theorem tz_37 : tz Tryz.prog 37 = some [.int .i64 0, .st [], .nil] := by kernel_rfl
theorem tsz_37 : tsz Tryz.prog 37 = 3 := by kernel_rfl
theorem tag_37 : tagg Tryz.prog 37 = true := by kernel_rfl
theorem tb_37 : tbuild Tryz.prog 37 = some [.int .i64 0, .st [], .nil] := by kernel_rfl
theorem tf_37_0 : tfld Tryz.prog 37 0 = some (0, 1) := by kernel_rfl
theorem tf_37_1 : tfld Tryz.prog 37 1 = some (1, 1) := by kernel_rfl
theorem tf_37_2 : tfld Tryz.prog 37 2 = some (2, 1) := by kernel_rfl
theorem tl_38 : tload Tryz.prog 38 = some (some 3) := by kernel_rfl
theorem ts_38 : tst Tryz.prog 38 = some 3 := by kernel_rfl
theorem tz_38 : tz Tryz.prog 38 = some [.int .i64 0, .st [], .nil] := by kernel_rfl
theorem tsz_38 : tsz Tryz.prog 38 = 3 := by kernel_rfl
theorem tag_38 : tagg Tryz.prog 38 = true := by kernel_rfl
theorem tb_38 : tbuild Tryz.prog 38 = some [.int .i64 0, .st [], .nil] := by kernel_rfl
theorem tf_38_0 : tfld Tryz.prog 38 0 = some (0, 1) := by kernel_rfl
theorem tf_38_1 : tfld Tryz.prog 38 1 = some (1, 1) := by kernel_rfl
theorem tf_38_2 : tfld Tryz.prog 38 2 = some (2, 1) := by kernel_rfl
theorem tl_39 : tload Tryz.prog 39 = some none := by kernel_rfl
theorem ts_39 : tst Tryz.prog 39 = some 1 := by kernel_rfl
theorem tz_39 : tz Tryz.prog 39 = some [.nil] := by kernel_rfl
theorem tsl_39 : tsl Tryz.prog 39 = some (3, 1) := by kernel_rfl
theorem tl_40 : tload Tryz.prog 40 = some (some 25) := by kernel_rfl
theorem ts_40 : tst Tryz.prog 40 = some 25 := by kernel_rfl
theorem tz_40 : tz Tryz.prog 40 = some [.int .i64 0, .int .i64 0, .int .i64 0, .int .i64 0, .int .i64 0, .int .i64 0, .nil, .nil, .nil, .nil, .int .i64 0, .int .i64 0, .int .i64 0, .st [], .int .i64 0, .int .i64 0, .int .i64 0, .int .i64 0, .st [], .nil, .nil, .nil, .int .i64 0, .int .i64 0, .int .i64 0] := by kernel_rfl
theorem tsz_40 : tsz Tryz.prog 40 = 25 := by kernel_rfl
theorem tag_40 : tagg Tryz.prog 40 = true := by kernel_rfl
theorem tb_40 : tbuild Tryz.prog 40 = some [.int .i64 0, .int .i64 0, .int .i64 0, .int .i64 0, .int .i64 0, .int .i64 0, .nil, .nil, .nil, .nil, .int .i64 0, .int .i64 0, .int .i64 0, .st [], .int .i64 0, .int .i64 0, .int .i64 0, .int .i64 0, .st [], .nil, .nil, .nil, .int .i64 0, .int .i64 0, .int .i64 0] := by kernel_rfl
theorem tf_40_0 : tfld Tryz.prog 40 0 = some (0, 1) := by kernel_rfl
theorem tf_40_1 : tfld Tryz.prog 40 1 = some (1, 1) := by kernel_rfl
theorem tf_40_2 : tfld Tryz.prog 40 2 = some (2, 1) := by kernel_rfl
theorem tf_40_3 : tfld Tryz.prog 40 3 = some (3, 1) := by kernel_rfl
theorem tf_40_4 : tfld Tryz.prog 40 4 = some (4, 2) := by kernel_rfl
theorem tf_40_5 : tfld Tryz.prog 40 5 = some (6, 1) := by kernel_rfl
theorem tf_40_6 : tfld Tryz.prog 40 6 = some (7, 1) := by kernel_rfl
theorem tf_40_7 : tfld Tryz.prog 40 7 = some (8, 1) := by kernel_rfl
theorem tf_40_8 : tfld Tryz.prog 40 8 = some (9, 1) := by kernel_rfl
theorem tf_40_9 : tfld Tryz.prog 40 9 = some (10, 3) := by kernel_rfl
theorem tf_40_10 : tfld Tryz.prog 40 10 = some (13, 4) := by kernel_rfl
theorem tf_40_11 : tfld Tryz.prog 40 11 = some (17, 3) := by kernel_rfl
theorem tf_40_12 : tfld Tryz.prog 40 12 = some (20, 1) := by kernel_rfl
theorem tf_40_13 : tfld Tryz.prog 40 13 = some (21, 1) := by kernel_rfl
theorem tf_40_14 : tfld Tryz.prog 40 14 = some (22, 1) := by kernel_rfl
theorem tf_40_15 : tfld Tryz.prog 40 15 = some (23, 1) := by kernel_rfl
theorem tf_40_16 : tfld Tryz.prog 40 16 = some (24, 1) := by kernel_rfl
theorem tl_41 : tload Tryz.prog 41 = some (some 25) := by kernel_rfl
theorem ts_41 : tst Tryz.prog 41 = some 25 := by kernel_rfl
theorem tz_41 : tz Tryz.prog 41 = some [.int .i64 0, .int .i64 0, .int .i64 0, .int .i64 0, .int .i64 0, .int .i64 0, .nil, .nil, .nil, .nil, .int .i64 0, .int .i64 0, .int .i64 0, .st [], .int .i64 0, .int .i64 0, .int .i64 0, .int .i64 0, .st [], .nil, .nil, .nil, .int .i64 0, .int .i64 0, .int .i64 0] := by kernel_rfl
theorem tsz_41 : tsz Tryz.prog 41 = 25 := by kernel_rfl
theorem tag_41 : tagg Tryz.prog 41 = true := by kernel_rfl
theorem tb_41 : tbuild Tryz.prog 41 = some [.int .i64 0, .int .i64 0, .int .i64 0, .int .i64 0, .int .i64 0, .int .i64 0, .nil, .nil, .nil, .nil, .int .i64 0, .int .i64 0, .int .i64 0, .st [], .int .i64 0, .int .i64 0, .int .i64 0, .int .i64 0, .st [], .nil, .nil, .nil, .int .i64 0, .int .i64 0, .int .i64 0] := by kernel_rfl
theorem tf_41_0 : tfld Tryz.prog 41 0 = some (0, 1) := by kernel_rfl
theorem tf_41_1 : tfld Tryz.prog 41 1 = some (1, 1) := by kernel_rfl
theorem tf_41_2 : tfld Tryz.prog 41 2 = some (2, 1) := by kernel_rfl
theorem tf_41_3 : tfld Tryz.prog 41 3 = some (3, 1) := by kernel_rfl
theorem tf_41_4 : tfld Tryz.prog 41 4 = some (4, 2) := by kernel_rfl
theorem tf_41_5 : tfld Tryz.prog 41 5 = some (6, 1) := by kernel_rfl
theorem tf_41_6 : tfld Tryz.prog 41 6 = some (7, 1) := by kernel_rfl
theorem tf_41_7 : tfld Tryz.prog 41 7 = some (8, 1) := by kernel_rfl
theorem tf_41_8 : tfld Tryz.prog 41 8 = some (9, 1) := by kernel_rfl
theorem tf_41_9 : tfld Tryz.prog 41 9 = some (10, 3) := by kernel_rfl
theorem tf_41_10 : tfld Tryz.prog 41 10 = some (13, 4) := by kernel_rfl
theorem tf_41_11 : tfld Tryz.prog 41 11 = some (17, 3) := by kernel_rfl
theorem tf_41_12 : tfld Tryz.prog 41 12 = some (20, 1) := by kernel_rfl
theorem tf_41_13 : tfld Tryz.prog 41 13 = some (21, 1) := by kernel_rfl
theorem tf_41_14 : tfld Tryz.prog 41 14 = some (22, 1) := by kernel_rfl
theorem tf_41_15 : tfld Tryz.prog 41 15 = some (23, 1) := by kernel_rfl
theorem tf_41_16 : tfld Tryz.prog 41 16 = some (24, 1) := by kernel_rfl
theorem tl_42 : tload Tryz.prog 42 = some none := by kernel_rfl
theorem ts_42 : tst Tryz.prog 42 = some 1 := by kernel_rfl
theorem tz_42 : tz Tryz.prog 42 = some [.nil] := by kernel_rfl
theorem tsl_42 : tsl Tryz.prog 42 = some (57, 19) := by kernel_rfl
theorem tl_43 : tload Tryz.prog 43 = some none := by kernel_rfl
theorem ts_43 : tst Tryz.prog 43 = some 1 := by kernel_rfl
theorem tz_43 : tz Tryz.prog 43 = some [.nil] := by kernel_rfl
theorem tsl_43 : tsl Tryz.prog 43 = some (55, 5) := by kernel_rfl
theorem tl_44 : tload Tryz.prog 44 = some (some 2) := by kernel_rfl
theorem ts_44 : tst Tryz.prog 44 = some 2 := by kernel_rfl
theorem tz_44 : tz Tryz.prog 44 = some [.nil, .nil] := by kernel_rfl
theorem tsz_44 : tsz Tryz.prog 44 = 2 := by kernel_rfl
theorem tag_44 : tagg Tryz.prog 44 = true := by kernel_rfl
theorem tb_44 : tbuild Tryz.prog 44 = some [.nil, .nil] := by kernel_rfl
theorem tf_44_0 : tfld Tryz.prog 44 0 = some (0, 1) := by kernel_rfl
theorem tf_44_1 : tfld Tryz.prog 44 1 = some (1, 1) := by kernel_rfl
theorem tl_45 : tload Tryz.prog 45 = some (some 2) := by kernel_rfl
theorem ts_45 : tst Tryz.prog 45 = some 2 := by kernel_rfl
theorem tz_45 : tz Tryz.prog 45 = some [.nil, .nil] := by kernel_rfl
theorem tsz_45 : tsz Tryz.prog 45 = 2 := by kernel_rfl
theorem tag_45 : tagg Tryz.prog 45 = true := by kernel_rfl
theorem tb_45 : tbuild Tryz.prog 45 = some [.nil, .nil] := by kernel_rfl
theorem tf_45_0 : tfld Tryz.prog 45 0 = some (0, 1) := by kernel_rfl
theorem tf_45_1 : tfld Tryz.prog 45 1 = some (1, 1) := by kernel_rfl
theorem tl_46 : tload Tryz.prog 46 = some (some 61) := by kernel_rfl
theorem ts_46 : tst Tryz.prog 46 = some 61 := by kernel_rfl
theorem tz_46 : tz Tryz.prog 46 = some [.int .i64 0, .int .i64 0, .int .i64 0, .int .i64 0, .int .i64 0, .int .i64 0, .nil, .nil, .nil, .nil, .int .i64 0, .int .i64 0, .int .i64 0, .st [], .int .i64 0, .int .i64 0, .int .i64 0, .int .i64 0, .st [], .nil, .nil, .nil, .int .i64 0, .int .i64 0, .int .i64 0, .int .i64 0, .int .i64 0, .int .i64 0, .int .i64 0, .int .i64 0, .int .i64 0, .nil, .nil, .nil, .nil, .int .i64 0, .int .i64 0, .int .i64 0, .st [], .int .i64 0, .int .i64 0, .int .i64 0, .int .i64 0, .st [], .nil, .nil, .nil, .int .i64 0, .int .i64 0, .int .i64 0, .nil, .nil, .st [], .st [], .st [], .st [], .nil, .nil, .nil, .nil, .nil] := by kernel_rfl
theorem tsz_46 : tsz Tryz.prog 46 = 61 := by kernel_rfl
theorem tag_46 : tagg Tryz.prog 46 = true := by kernel_rfl
theorem tb_46 : tbuild Tryz.prog 46 = some [.int .i64 0, .int .i64 0, .int .i64 0, .int .i64 0, .int .i64 0, .int .i64 0, .nil, .nil, .nil, .nil, .int .i64 0, .int .i64 0, .int .i64 0, .st [], .int .i64 0, .int .i64 0, .int .i64 0, .int .i64 0, .st [], .nil, .nil, .nil, .int .i64 0, .int .i64 0, .int .i64 0, .int .i64 0, .int .i64 0, .int .i64 0, .int .i64 0, .int .i64 0, .int .i64 0, .nil, .nil, .nil, .nil, .int .i64 0, .int .i64 0, .int .i64 0, .st [], .int .i64 0, .int .i64 0, .int .i64 0, .int .i64 0, .st [], .nil, .nil, .nil, .int .i64 0, .int .i64 0, .int .i64 0, .nil, .nil, .st [], .st [], .st [], .st [], .nil, .nil, .nil, .nil, .nil] := by kernel_rfl
theorem tf_46_0 : tfld Tryz.prog 46 0 = some (0, 25) := by kernel_rfl
theorem tf_46_1 : tfld Tryz.prog 46 1 = some (25, 25) := by kernel_rfl
theorem tf_46_2 : tfld Tryz.prog 46 2 = some (50, 1) := by kernel_rfl
theorem tf_46_3 : tfld Tryz.prog 46 3 = some (51, 1) := by kernel_rfl
theorem tf_46_4 : tfld Tryz.prog 46 4 = some (52, 1) := by kernel_rfl
theorem tf_46_5 : tfld Tryz.prog 46 5 = some (53, 1) := by kernel_rfl
theorem tf_46_6 : tfld Tryz.prog 46 6 = some (54, 1) := by kernel_rfl
theorem tf_46_7 : tfld Tryz.prog 46 7 = some (55, 1) := by kernel_rfl
theorem tf_46_8 : tfld Tryz.prog 46 8 = some (56, 2) := by kernel_rfl
theorem tf_46_9 : tfld Tryz.prog 46 9 = some (58, 1) := by kernel_rfl
theorem tf_46_10 : tfld Tryz.prog 46 10 = some (59, 1) := by kernel_rfl
theorem tf_46_11 : tfld Tryz.prog 46 11 = some (60, 1) := by kernel_rfl
theorem tl_47 : tload Tryz.prog 47 = some (some 61) := by kernel_rfl
theorem ts_47 : tst Tryz.prog 47 = some 61 := by kernel_rfl
theorem tz_47 : tz Tryz.prog 47 = some [.int .i64 0, .int .i64 0, .int .i64 0, .int .i64 0, .int .i64 0, .int .i64 0, .nil, .nil, .nil, .nil, .int .i64 0, .int .i64 0, .int .i64 0, .st [], .int .i64 0, .int .i64 0, .int .i64 0, .int .i64 0, .st [], .nil, .nil, .nil, .int .i64 0, .int .i64 0, .int .i64 0, .int .i64 0, .int .i64 0, .int .i64 0, .int .i64 0, .int .i64 0, .int .i64 0, .nil, .nil, .nil, .nil, .int .i64 0, .int .i64 0, .int .i64 0, .st [], .int .i64 0, .int .i64 0, .int .i64 0, .int .i64 0, .st [], .nil, .nil, .nil, .int .i64 0, .int .i64 0, .int .i64 0, .nil, .nil, .st [], .st [], .st [], .st [], .nil, .nil, .nil, .nil, .nil] := by kernel_rfl
theorem tsz_47 : tsz Tryz.prog 47 = 61 := by kernel_rfl
theorem tag_47 : tagg Tryz.prog 47 = true := by kernel_rfl
theorem tb_47 : tbuild Tryz.prog 47 = some [.int .i64 0, .int .i64 0, .int .i64 0, .int .i64 0, .int .i64 0, .int .i64 0, .nil, .nil, .nil, .nil, .int .i64 0, .int .i64 0, .int .i64 0, .st [], .int .i64 0, .int .i64 0, .int .i64 0, .int .i64 0, .st [], .nil, .nil, .nil, .int .i64 0, .int .i64 0, .int .i64 0, .int .i64 0, .int .i64 0, .int .i64 0, .int .i64 0, .int .i64 0, .int .i64 0, .nil, .nil, .nil, .nil, .int .i64 0, .int .i64 0, .int .i64 0, .st [], .int .i64 0, .int .i64 0, .int .i64 0, .int .i64 0, .st [], .nil, .nil, .nil, .int .i64 0, .int .i64 0, .int .i64 0, .nil, .nil, .st [], .st [], .st [], .st [], .nil, .nil, .nil, .nil, .nil] := by kernel_rfl
theorem tf_47_0 : tfld Tryz.prog 47 0 = some (0, 25) := by kernel_rfl
theorem tf_47_1 : tfld Tryz.prog 47 1 = some (25, 25) := by kernel_rfl
theorem tf_47_2 : tfld Tryz.prog 47 2 = some (50, 1) := by kernel_rfl
theorem tf_47_3 : tfld Tryz.prog 47 3 = some (51, 1) := by kernel_rfl
theorem tf_47_4 : tfld Tryz.prog 47 4 = some (52, 1) := by kernel_rfl
theorem tf_47_5 : tfld Tryz.prog 47 5 = some (53, 1) := by kernel_rfl
theorem tf_47_6 : tfld Tryz.prog 47 6 = some (54, 1) := by kernel_rfl
theorem tf_47_7 : tfld Tryz.prog 47 7 = some (55, 1) := by kernel_rfl
theorem tf_47_8 : tfld Tryz.prog 47 8 = some (56, 2) := by kernel_rfl
theorem tf_47_9 : tfld Tryz.prog 47 9 = some (58, 1) := by kernel_rfl
theorem tf_47_10 : tfld Tryz.prog 47 10 = some (59, 1) := by kernel_rfl
theorem tf_47_11 : tfld Tryz.prog 47 11 = some (60, 1) := by kernel_rfl
theorem tl_52 : tload Tryz.prog 52 = some (some 4) := by kernel_rfl
theorem ts_52 : tst Tryz.prog 52 = some 4 := by kernel_rfl
theorem tz_52 : tz Tryz.prog 52 = some [.int .i64 0, .int .i64 0, .bo false, .bo false] := by kernel_rfl
theorem tsz_52 : tsz Tryz.prog 52 = 4 := by kernel_rfl
theorem tag_52 : tagg Tryz.prog 52 = true := by kernel_rfl
theorem tb_52 : tbuild Tryz.prog 52 = some [.int .i64 0, .int .i64 0, .bo false, .bo false] := by kernel_rfl
theorem tf_52_0 : tfld Tryz.prog 52 0 = some (0, 1) := by kernel_rfl
theorem tf_52_1 : tfld Tryz.prog 52 1 = some (1, 1) := by kernel_rfl
theorem tf_52_2 : tfld Tryz.prog 52 2 = some (2, 1) := by kernel_rfl
theorem tf_52_3 : tfld Tryz.prog 52 3 = some (3, 1) := by kernel_rfl
theorem tl_53 : tload Tryz.prog 53 = some (some 4) := by kernel_rfl
theorem ts_53 : tst Tryz.prog 53 = some 4 := by kernel_rfl
theorem tz_53 : tz Tryz.prog 53 = some [.int .i64 0, .int .i64 0, .bo false, .bo false] := by kernel_rfl
theorem tsz_53 : tsz Tryz.prog 53 = 4 := by kernel_rfl
theorem tag_53 : tagg Tryz.prog 53 = true := by kernel_rfl
theorem tb_53 : tbuild Tryz.prog 53 = some [.int .i64 0, .int .i64 0, .bo false, .bo false] := by kernel_rfl
theorem tf_53_0 : tfld Tryz.prog 53 0 = some (0, 1) := by kernel_rfl
theorem tf_53_1 : tfld Tryz.prog 53 1 = some (1, 1) := by kernel_rfl
theorem tf_53_2 : tfld Tryz.prog 53 2 = some (2, 1) := by kernel_rfl
theorem tf_53_3 : tfld Tryz.prog 53 3 = some (3, 1) := by kernel_rfl
theorem tl_54 : tload Tryz.prog 54 = some (some 5) := by kernel_rfl
theorem ts_54 : tst Tryz.prog 54 = some 5 := by kernel_rfl
theorem tz_54 : tz Tryz.prog 54 = some [.int .i64 0, .int .i64 0, .int .i64 0, .int .i64 0, .int .i64 0] := by kernel_rfl
theorem tsz_54 : tsz Tryz.prog 54 = 5 := by kernel_rfl
theorem tag_54 : tagg Tryz.prog 54 = true := by kernel_rfl
theorem tb_54 : tbuild Tryz.prog 54 = some [.int .i64 0, .int .i64 0, .int .i64 0, .int .i64 0, .int .i64 0] := by kernel_rfl
theorem tf_54_0 : tfld Tryz.prog 54 0 = some (0, 1) := by kernel_rfl
theorem tf_54_1 : tfld Tryz.prog 54 1 = some (1, 1) := by kernel_rfl
theorem tf_54_2 : tfld Tryz.prog 54 2 = some (2, 1) := by kernel_rfl
theorem tf_54_3 : tfld Tryz.prog 54 3 = some (3, 1) := by kernel_rfl
theorem tf_54_4 : tfld Tryz.prog 54 4 = some (4, 1) := by kernel_rfl
theorem tl_55 : tload Tryz.prog 55 = some (some 5) := by kernel_rfl
theorem ts_55 : tst Tryz.prog 55 = some 5 := by kernel_rfl
theorem tz_55 : tz Tryz.prog 55 = some [.int .i64 0, .int .i64 0, .int .i64 0, .int .i64 0, .int .i64 0] := by kernel_rfl
theorem tsz_55 : tsz Tryz.prog 55 = 5 := by kernel_rfl
theorem tag_55 : tagg Tryz.prog 55 = true := by kernel_rfl
theorem tb_55 : tbuild Tryz.prog 55 = some [.int .i64 0, .int .i64 0, .int .i64 0, .int .i64 0, .int .i64 0] := by kernel_rfl
theorem tf_55_0 : tfld Tryz.prog 55 0 = some (0, 1) := by kernel_rfl
theorem tf_55_1 : tfld Tryz.prog 55 1 = some (1, 1) := by kernel_rfl
theorem tf_55_2 : tfld Tryz.prog 55 2 = some (2, 1) := by kernel_rfl
theorem tf_55_3 : tfld Tryz.prog 55 3 = some (3, 1) := by kernel_rfl
theorem tf_55_4 : tfld Tryz.prog 55 4 = some (4, 1) := by kernel_rfl
theorem tl_56 : tload Tryz.prog 56 = some (some 19) := by kernel_rfl
theorem ts_56 : tst Tryz.prog 56 = some 19 := by kernel_rfl
theorem tz_56 : tz Tryz.prog 56 = some [.int .i64 0, .int .i64 0, .int .i64 0, .int .i64 0, .int .i64 0, .int .i64 0, .int .i64 0, .int .i64 0, .int .i64 0, .int .i64 0, .int .i64 0, .int .i64 0, .int .i64 0, .int .i64 0, .int .i64 0, .int .i64 0, .bo false, .int .i64 0, .st []] := by kernel_rfl
theorem tsz_56 : tsz Tryz.prog 56 = 19 := by kernel_rfl
theorem tag_56 : tagg Tryz.prog 56 = true := by kernel_rfl
theorem tb_56 : tbuild Tryz.prog 56 = some [.int .i64 0, .int .i64 0, .int .i64 0, .int .i64 0, .int .i64 0, .int .i64 0, .int .i64 0, .int .i64 0, .int .i64 0, .int .i64 0, .int .i64 0, .int .i64 0, .int .i64 0, .int .i64 0, .int .i64 0, .int .i64 0, .bo false, .int .i64 0, .st []] := by kernel_rfl
theorem tf_56_0 : tfld Tryz.prog 56 0 = some (0, 1) := by kernel_rfl
theorem tf_56_1 : tfld Tryz.prog 56 1 = some (1, 1) := by kernel_rfl
theorem tf_56_2 : tfld Tryz.prog 56 2 = some (2, 1) := by kernel_rfl
theorem tf_56_3 : tfld Tryz.prog 56 3 = some (3, 1) := by kernel_rfl
theorem tf_56_4 : tfld Tryz.prog 56 4 = some (4, 1) := by kernel_rfl
theorem tf_56_5 : tfld Tryz.prog 56 5 = some (5, 1) := by kernel_rfl
theorem tf_56_6 : tfld Tryz.prog 56 6 = some (6, 1) := by kernel_rfl
theorem tf_56_7 : tfld Tryz.prog 56 7 = some (7, 1) := by kernel_rfl
theorem tf_56_8 : tfld Tryz.prog 56 8 = some (8, 1) := by kernel_rfl
theorem tf_56_9 : tfld Tryz.prog 56 9 = some (9, 5) := by kernel_rfl
theorem tf_56_10 : tfld Tryz.prog 56 10 = some (14, 1) := by kernel_rfl
theorem tf_56_11 : tfld Tryz.prog 56 11 = some (15, 1) := by kernel_rfl
theorem tf_56_12 : tfld Tryz.prog 56 12 = some (16, 1) := by kernel_rfl
theorem tf_56_13 : tfld Tryz.prog 56 13 = some (17, 1) := by kernel_rfl
theorem tf_56_14 : tfld Tryz.prog 56 14 = some (18, 1) := by kernel_rfl
theorem tl_57 : tload Tryz.prog 57 = some (some 19) := by kernel_rfl
theorem ts_57 : tst Tryz.prog 57 = some 19 := by kernel_rfl
theorem tz_57 : tz Tryz.prog 57 = some [.int .i64 0, .int .i64 0, .int .i64 0, .int .i64 0, .int .i64 0, .int .i64 0, .int .i64 0, .int .i64 0, .int .i64 0, .int .i64 0, .int .i64 0, .int .i64 0, .int .i64 0, .int .i64 0, .int .i64 0, .int .i64 0, .bo false, .int .i64 0, .st []] := by kernel_rfl
theorem tsz_57 : tsz Tryz.prog 57 = 19 := by kernel_rfl
theorem tag_57 : tagg Tryz.prog 57 = true := by kernel_rfl
theorem tb_57 : tbuild Tryz.prog 57 = some [.int .i64 0, .int .i64 0, .int .i64 0, .int .i64 0, .int .i64 0, .int .i64 0, .int .i64 0, .int .i64 0, .int .i64 0, .int .i64 0, .int .i64 0, .int .i64 0, .int .i64 0, .int .i64 0, .int .i64 0, .int .i64 0, .bo false, .int .i64 0, .st []] := by kernel_rfl
theorem tf_57_0 : tfld Tryz.prog 57 0 = some (0, 1) := by kernel_rfl
theorem tf_57_1 : tfld Tryz.prog 57 1 = some (1, 1) := by kernel_rfl
theorem tf_57_2 : tfld Tryz.prog 57 2 = some (2, 1) := by kernel_rfl
theorem tf_57_3 : tfld Tryz.prog 57 3 = some (3, 1) := by kernel_rfl
theorem tf_57_4 : tfld Tryz.prog 57 4 = some (4, 1) := by kernel_rfl
theorem tf_57_5 : tfld Tryz.prog 57 5 = some (5, 1) := by kernel_rfl
theorem tf_57_6 : tfld Tryz.prog 57 6 = some (6, 1) := by kernel_rfl
theorem tf_57_7 : tfld Tryz.prog 57 7 = some (7, 1) := by kernel_rfl
theorem tf_57_8 : tfld Tryz.prog 57 8 = some (8, 1) := by kernel_rfl
theorem tf_57_9 : tfld Tryz.prog 57 9 = some (9, 5) := by kernel_rfl
theorem tf_57_10 : tfld Tryz.prog 57 10 = some (14, 1) := by kernel_rfl
theorem tf_57_11 : tfld Tryz.prog 57 11 = some (15, 1) := by kernel_rfl
theorem tf_57_12 : tfld Tryz.prog 57 12 = some (16, 1) := by kernel_rfl
theorem tf_57_13 : tfld Tryz.prog 57 13 = some (17, 1) := by kernel_rfl
theorem tf_57_14 : tfld Tryz.prog 57 14 = some (18, 1) := by kernel_rfl
theorem tl_58 : tload Tryz.prog 58 = some (some 28) := by kernel_rfl
theorem ts_58 : tst Tryz.prog 58 = some 28 := by kernel_rfl
theorem tz_58 : tz Tryz.prog 58 = some [.int .i64 0, .int .i64 0, .int .i64 0, .int .i64 0, .st [], .int .i64 0, .int .i64 0, .bo false, .bo false, .int .i64 0, .int .i64 0, .int .i64 0, .int .i64 0, .int .i64 0, .int .i64 0, .int .i64 0, .int .i64 0, .int .i64 0, .int .i64 0, .int .i64 0, .int .i64 0, .int .i64 0, .int .i64 0, .int .i64 0, .int .i64 0, .bo false, .int .i64 0, .st []] := by kernel_rfl
theorem tsz_58 : tsz Tryz.prog 58 = 28 := by kernel_rfl
theorem tag_58 : tagg Tryz.prog 58 = true := by kernel_rfl
theorem tb_58 : tbuild Tryz.prog 58 = some [.int .i64 0, .int .i64 0, .int .i64 0, .int .i64 0, .st [], .int .i64 0, .int .i64 0, .bo false, .bo false, .int .i64 0, .int .i64 0, .int .i64 0, .int .i64 0, .int .i64 0, .int .i64 0, .int .i64 0, .int .i64 0, .int .i64 0, .int .i64 0, .int .i64 0, .int .i64 0, .int .i64 0, .int .i64 0, .int .i64 0, .int .i64 0, .bo false, .int .i64 0, .st []] := by kernel_rfl
theorem tf_58_0 : tfld Tryz.prog 58 0 = some (0, 1) := by kernel_rfl
theorem tf_58_1 : tfld Tryz.prog 58 1 = some (1, 1) := by kernel_rfl
theorem tf_58_2 : tfld Tryz.prog 58 2 = some (2, 1) := by kernel_rfl
theorem tf_58_3 : tfld Tryz.prog 58 3 = some (3, 1) := by kernel_rfl
theorem tf_58_4 : tfld Tryz.prog 58 4 = some (4, 1) := by kernel_rfl
theorem tf_58_5 : tfld Tryz.prog 58 5 = some (5, 4) := by kernel_rfl
theorem tf_58_6 : tfld Tryz.prog 58 6 = some (9, 19) := by kernel_rfl
theorem tl_59 : tload Tryz.prog 59 = some (some 28) := by kernel_rfl
theorem ts_59 : tst Tryz.prog 59 = some 28 := by kernel_rfl
theorem tz_59 : tz Tryz.prog 59 = some [.int .i64 0, .int .i64 0, .int .i64 0, .int .i64 0, .st [], .int .i64 0, .int .i64 0, .bo false, .bo false, .int .i64 0, .int .i64 0, .int .i64 0, .int .i64 0, .int .i64 0, .int .i64 0, .int .i64 0, .int .i64 0, .int .i64 0, .int .i64 0, .int .i64 0, .int .i64 0, .int .i64 0, .int .i64 0, .int .i64 0, .int .i64 0, .bo false, .int .i64 0, .st []] := by kernel_rfl
theorem tsz_59 : tsz Tryz.prog 59 = 28 := by kernel_rfl
theorem tag_59 : tagg Tryz.prog 59 = true := by kernel_rfl
theorem tb_59 : tbuild Tryz.prog 59 = some [.int .i64 0, .int .i64 0, .int .i64 0, .int .i64 0, .st [], .int .i64 0, .int .i64 0, .bo false, .bo false, .int .i64 0, .int .i64 0, .int .i64 0, .int .i64 0, .int .i64 0, .int .i64 0, .int .i64 0, .int .i64 0, .int .i64 0, .int .i64 0, .int .i64 0, .int .i64 0, .int .i64 0, .int .i64 0, .int .i64 0, .int .i64 0, .bo false, .int .i64 0, .st []] := by kernel_rfl
theorem tf_59_0 : tfld Tryz.prog 59 0 = some (0, 1) := by kernel_rfl
theorem tf_59_1 : tfld Tryz.prog 59 1 = some (1, 1) := by kernel_rfl
theorem tf_59_2 : tfld Tryz.prog 59 2 = some (2, 1) := by kernel_rfl
theorem tf_59_3 : tfld Tryz.prog 59 3 = some (3, 1) := by kernel_rfl
theorem tf_59_4 : tfld Tryz.prog 59 4 = some (4, 1) := by kernel_rfl
theorem tf_59_5 : tfld Tryz.prog 59 5 = some (5, 4) := by kernel_rfl
theorem tf_59_6 : tfld Tryz.prog 59 6 = some (9, 19) := by kernel_rfl
theorem tl_65 : tload Tryz.prog 65 = some none := by kernel_rfl
theorem ts_65 : tst Tryz.prog 65 = some 1 := by kernel_rfl
theorem tz_65 : tz Tryz.prog 65 = some [.un] := by kernel_rfl
theorem tl_81 : tload Tryz.prog 81 = some (some 3) := by kernel_rfl
theorem ts_81 : tst Tryz.prog 81 = some 3 := by kernel_rfl
theorem tz_81 : tz Tryz.prog 81 = some [.nil, .int .i64 0, .int .i64 0] := by kernel_rfl
theorem tsz_81 : tsz Tryz.prog 81 = 3 := by kernel_rfl
theorem tag_81 : tagg Tryz.prog 81 = true := by kernel_rfl
theorem tb_81 : tbuild Tryz.prog 81 = some [.nil, .int .i64 0, .int .i64 0] := by kernel_rfl
theorem tf_81_0 : tfld Tryz.prog 81 0 = some (0, 1) := by kernel_rfl
theorem tf_81_1 : tfld Tryz.prog 81 1 = some (1, 1) := by kernel_rfl
theorem tf_81_2 : tfld Tryz.prog 81 2 = some (2, 1) := by kernel_rfl
theorem tl_82 : tload Tryz.prog 82 = some (some 3) := by kernel_rfl
theorem ts_82 : tst Tryz.prog 82 = some 3 := by kernel_rfl
theorem tz_82 : tz Tryz.prog 82 = some [.nil, .int .i64 0, .int .i64 0] := by kernel_rfl
theorem tsz_82 : tsz Tryz.prog 82 = 3 := by kernel_rfl
theorem tag_82 : tagg Tryz.prog 82 = true := by kernel_rfl
theorem tb_82 : tbuild Tryz.prog 82 = some [.nil, .int .i64 0, .int .i64 0] := by kernel_rfl
theorem tf_82_0 : tfld Tryz.prog 82 0 = some (0, 1) := by kernel_rfl
theorem tf_82_1 : tfld Tryz.prog 82 1 = some (1, 1) := by kernel_rfl
theorem tf_82_2 : tfld Tryz.prog 82 2 = some (2, 1) := by kernel_rfl
theorem tl_96 : tload Tryz.prog 96 = some none := by kernel_rfl
theorem ts_96 : tst Tryz.prog 96 = some 1 := by kernel_rfl
theorem tz_96 : tz Tryz.prog 96 = some [.un] := by kernel_rfl
theorem tl_125 : tload Tryz.prog 125 = some (some 3) := by kernel_rfl
theorem ts_125 : tst Tryz.prog 125 = some 3 := by kernel_rfl
theorem tz_125 : tz Tryz.prog 125 = some [.int .i64 0, .int .i64 0, .int .i64 0] := by kernel_rfl
theorem tsz_125 : tsz Tryz.prog 125 = 3 := by kernel_rfl
theorem tag_125 : tagg Tryz.prog 125 = true := by kernel_rfl
theorem tb_125 : tbuild Tryz.prog 125 = some [.int .i64 0, .int .i64 0, .int .i64 0] := by kernel_rfl
theorem tf_125_0 : tfld Tryz.prog 125 0 = some (0, 1) := by kernel_rfl
theorem tf_125_1 : tfld Tryz.prog 125 1 = some (1, 1) := by kernel_rfl
theorem tf_125_2 : tfld Tryz.prog 125 2 = some (2, 1) := by kernel_rfl
theorem tl_126 : tload Tryz.prog 126 = some (some 3) := by kernel_rfl
theorem ts_126 : tst Tryz.prog 126 = some 3 := by kernel_rfl
theorem tz_126 : tz Tryz.prog 126 = some [.int .i64 0, .int .i64 0, .int .i64 0] := by kernel_rfl
theorem tsz_126 : tsz Tryz.prog 126 = 3 := by kernel_rfl
theorem tag_126 : tagg Tryz.prog 126 = true := by kernel_rfl
theorem tb_126 : tbuild Tryz.prog 126 = some [.int .i64 0, .int .i64 0, .int .i64 0] := by kernel_rfl
theorem tf_126_0 : tfld Tryz.prog 126 0 = some (0, 1) := by kernel_rfl
theorem tf_126_1 : tfld Tryz.prog 126 1 = some (1, 1) := by kernel_rfl
theorem tf_126_2 : tfld Tryz.prog 126 2 = some (2, 1) := by kernel_rfl
theorem tl_130 : tload Tryz.prog 130 = some none := by kernel_rfl
theorem ts_130 : tst Tryz.prog 130 = some 1 := by kernel_rfl
theorem tz_130 : tz Tryz.prog 130 = some [.un] := by kernel_rfl
theorem tl_131 : tload Tryz.prog 131 = some (some 10) := by kernel_rfl
theorem ts_131 : tst Tryz.prog 131 = some 10 := by kernel_rfl
theorem tz_131 : tz Tryz.prog 131 = some [.int .i64 0, .int .i64 0, .int .i64 0, .int .i64 0, .bo false, .int .i64 0, .int .i64 0, .int .i64 0, .int .i64 0, .int .i64 0] := by kernel_rfl
theorem tsz_131 : tsz Tryz.prog 131 = 10 := by kernel_rfl
theorem tag_131 : tagg Tryz.prog 131 = true := by kernel_rfl
theorem tb_131 : tbuild Tryz.prog 131 = some [.int .i64 0, .int .i64 0, .int .i64 0, .int .i64 0, .bo false, .int .i64 0, .int .i64 0, .int .i64 0, .int .i64 0, .int .i64 0] := by kernel_rfl
theorem tf_131_0 : tfld Tryz.prog 131 0 = some (0, 3) := by kernel_rfl
theorem tf_131_1 : tfld Tryz.prog 131 1 = some (3, 1) := by kernel_rfl
theorem tf_131_2 : tfld Tryz.prog 131 2 = some (4, 1) := by kernel_rfl
theorem tf_131_3 : tfld Tryz.prog 131 3 = some (5, 1) := by kernel_rfl
theorem tf_131_4 : tfld Tryz.prog 131 4 = some (6, 1) := by kernel_rfl
theorem tf_131_5 : tfld Tryz.prog 131 5 = some (7, 1) := by kernel_rfl
theorem tf_131_6 : tfld Tryz.prog 131 6 = some (8, 1) := by kernel_rfl
theorem tf_131_7 : tfld Tryz.prog 131 7 = some (9, 1) := by kernel_rfl
theorem tl_132 : tload Tryz.prog 132 = some (some 10) := by kernel_rfl
theorem ts_132 : tst Tryz.prog 132 = some 10 := by kernel_rfl
theorem tz_132 : tz Tryz.prog 132 = some [.int .i64 0, .int .i64 0, .int .i64 0, .int .i64 0, .bo false, .int .i64 0, .int .i64 0, .int .i64 0, .int .i64 0, .int .i64 0] := by kernel_rfl
theorem tsz_132 : tsz Tryz.prog 132 = 10 := by kernel_rfl
theorem tag_132 : tagg Tryz.prog 132 = true := by kernel_rfl
theorem tb_132 : tbuild Tryz.prog 132 = some [.int .i64 0, .int .i64 0, .int .i64 0, .int .i64 0, .bo false, .int .i64 0, .int .i64 0, .int .i64 0, .int .i64 0, .int .i64 0] := by kernel_rfl
theorem tf_132_0 : tfld Tryz.prog 132 0 = some (0, 3) := by kernel_rfl
theorem tf_132_1 : tfld Tryz.prog 132 1 = some (3, 1) := by kernel_rfl
theorem tf_132_2 : tfld Tryz.prog 132 2 = some (4, 1) := by kernel_rfl
theorem tf_132_3 : tfld Tryz.prog 132 3 = some (5, 1) := by kernel_rfl
theorem tf_132_4 : tfld Tryz.prog 132 4 = some (6, 1) := by kernel_rfl
theorem tf_132_5 : tfld Tryz.prog 132 5 = some (7, 1) := by kernel_rfl
theorem tf_132_6 : tfld Tryz.prog 132 6 = some (8, 1) := by kernel_rfl
theorem tf_132_7 : tfld Tryz.prog 132 7 = some (9, 1) := by kernel_rfl
theorem tl_146 : tload Tryz.prog 146 = some none := by kernel_rfl
theorem ts_146 : tst Tryz.prog 146 = some 1 := by kernel_rfl
theorem tz_146 : tz Tryz.prog 146 = some [.un] := by kernel_rfl
theorem tl_148 : tload Tryz.prog 148 = some none := by kernel_rfl
theorem ts_148 : tst Tryz.prog 148 = some 1 := by kernel_rfl
theorem tz_148 : tz Tryz.prog 148 = some [.nil] := by kernel_rfl
theorem tsl_148 : tsl Tryz.prog 148 = some (126, 3) := by kernel_rfl
theorem tl_163 : tload Tryz.prog 163 = some (some 8) := by kernel_rfl
theorem ts_163 : tst Tryz.prog 163 = some 8 := by kernel_rfl
theorem tz_163 : tz Tryz.prog 163 = some [.int .i64 0, .int .i64 0, .int .i64 0, .int .i64 0, .int .i64 0, .int .i64 0, .int .i64 0, .int .i64 0] := by kernel_rfl
theorem tsz_163 : tsz Tryz.prog 163 = 8 := by kernel_rfl
theorem tag_163 : tagg Tryz.prog 163 = true := by kernel_rfl
theorem tb_163 : tbuild Tryz.prog 163 = some [.int .i64 0, .int .i64 0, .int .i64 0, .int .i64 0, .int .i64 0, .int .i64 0, .int .i64 0, .int .i64 0] := by kernel_rfl
theorem tf_163_0 : tfld Tryz.prog 163 0 = some (0, 3) := by kernel_rfl
theorem tf_163_1 : tfld Tryz.prog 163 1 = some (3, 1) := by kernel_rfl
theorem tf_163_2 : tfld Tryz.prog 163 2 = some (4, 1) := by kernel_rfl
theorem tf_163_3 : tfld Tryz.prog 163 3 = some (5, 1) := by kernel_rfl
theorem tf_163_4 : tfld Tryz.prog 163 4 = some (6, 1) := by kernel_rfl
theorem tf_163_5 : tfld Tryz.prog 163 5 = some (7, 1) := by kernel_rfl
theorem tl_164 : tload Tryz.prog 164 = some (some 8) := by kernel_rfl
theorem ts_164 : tst Tryz.prog 164 = some 8 := by kernel_rfl
theorem tz_164 : tz Tryz.prog 164 = some [.int .i64 0, .int .i64 0, .int .i64 0, .int .i64 0, .int .i64 0, .int .i64 0, .int .i64 0, .int .i64 0] := by kernel_rfl
theorem tsz_164 : tsz Tryz.prog 164 = 8 := by kernel_rfl
theorem tag_164 : tagg Tryz.prog 164 = true := by kernel_rfl
theorem tb_164 : tbuild Tryz.prog 164 = some [.int .i64 0, .int .i64 0, .int .i64 0, .int .i64 0, .int .i64 0, .int .i64 0, .int .i64 0, .int .i64 0] := by kernel_rfl
theorem tf_164_0 : tfld Tryz.prog 164 0 = some (0, 3) := by kernel_rfl
theorem tf_164_1 : tfld Tryz.prog 164 1 = some (3, 1) := by kernel_rfl
theorem tf_164_2 : tfld Tryz.prog 164 2 = some (4, 1) := by kernel_rfl
theorem tf_164_3 : tfld Tryz.prog 164 3 = some (5, 1) := by kernel_rfl
theorem tf_164_4 : tfld Tryz.prog 164 4 = some (6, 1) := by kernel_rfl
theorem tf_164_5 : tfld Tryz.prog 164 5 = some (7, 1) := by kernel_rfl
theorem tl_166 : tload Tryz.prog 166 = some none := by kernel_rfl
theorem ts_166 : tst Tryz.prog 166 = some 1 := by kernel_rfl
theorem tz_166 : tz Tryz.prog 166 = some [.int .u64 0] := by kernel_rfl
theorem tl_169 : tload Tryz.prog 169 = some none := by kernel_rfl
theorem ts_169 : tst Tryz.prog 169 = some 1 := by kernel_rfl
theorem tz_169 : tz Tryz.prog 169 = some [.nil] := by kernel_rfl
theorem tsl_169 : tsl Tryz.prog 169 = some (9, 1) := by kernel_rfl
theorem tl_178 : tload Tryz.prog 178 = some (some 2) := by kernel_rfl
theorem ts_178 : tst Tryz.prog 178 = some 2 := by kernel_rfl
theorem tz_178 : tz Tryz.prog 178 = some [.int .i64 0, .st []] := by kernel_rfl
theorem tsz_178 : tsz Tryz.prog 178 = 2 := by kernel_rfl
theorem tag_178 : tagg Tryz.prog 178 = true := by kernel_rfl
theorem tb_178 : tbuild Tryz.prog 178 = some [.int .i64 0, .st []] := by kernel_rfl
theorem tf_178_0 : tfld Tryz.prog 178 0 = some (0, 1) := by kernel_rfl
theorem tf_178_1 : tfld Tryz.prog 178 1 = some (1, 1) := by kernel_rfl
theorem tl_179 : tload Tryz.prog 179 = some (some 2) := by kernel_rfl
theorem ts_179 : tst Tryz.prog 179 = some 2 := by kernel_rfl
theorem tz_179 : tz Tryz.prog 179 = some [.int .i64 0, .st []] := by kernel_rfl
theorem tsz_179 : tsz Tryz.prog 179 = 2 := by kernel_rfl
theorem tag_179 : tagg Tryz.prog 179 = true := by kernel_rfl
theorem tb_179 : tbuild Tryz.prog 179 = some [.int .i64 0, .st []] := by kernel_rfl
theorem tf_179_0 : tfld Tryz.prog 179 0 = some (0, 1) := by kernel_rfl
theorem tf_179_1 : tfld Tryz.prog 179 1 = some (1, 1) := by kernel_rfl
theorem tl_196 : tload Tryz.prog 196 = some (some 4) := by kernel_rfl
theorem ts_196 : tst Tryz.prog 196 = some 4 := by kernel_rfl
theorem tz_196 : tz Tryz.prog 196 = some [.un, .un, .un, .st []] := by kernel_rfl
theorem tsz_196 : tsz Tryz.prog 196 = 4 := by kernel_rfl
theorem tag_196 : tagg Tryz.prog 196 = true := by kernel_rfl
theorem tb_196 : tbuild Tryz.prog 196 = some [.un, .un, .un, .st []] := by kernel_rfl
theorem tf_196_0 : tfld Tryz.prog 196 0 = some (0, 1) := by kernel_rfl
theorem tf_196_1 : tfld Tryz.prog 196 1 = some (1, 1) := by kernel_rfl
theorem tf_196_2 : tfld Tryz.prog 196 2 = some (2, 1) := by kernel_rfl
theorem tf_196_3 : tfld Tryz.prog 196 3 = some (3, 1) := by kernel_rfl
theorem tl_198 : tload Tryz.prog 198 = some (some 0) := by kernel_rfl
theorem ts_198 : tst Tryz.prog 198 = some 0 := by kernel_rfl
theorem tl_199 : tload Tryz.prog 199 = some (some 0) := by kernel_rfl
theorem ts_199 : tst Tryz.prog 199 = some 0 := by kernel_rfl
theorem tsz_199 : tsz Tryz.prog 199 = 0 := by kernel_rfl
theorem tag_199 : tagg Tryz.prog 199 = true := by kernel_rfl
theorem tl_202 : tload Tryz.prog 202 = some none := by kernel_rfl
theorem ts_202 : tst Tryz.prog 202 = some 1 := by kernel_rfl
theorem tz_202 : tz Tryz.prog 202 = some [.int .u32 0] := by kernel_rfl
theorem tl_206 : tload Tryz.prog 206 = some none := by kernel_rfl
theorem ts_206 : tst Tryz.prog 206 = some 1 := by kernel_rfl
theorem tz_206 : tz Tryz.prog 206 = some [.un] := by kernel_rfl
theorem tl_209 : tload Tryz.prog 209 = some (some 11) := by kernel_rfl
theorem ts_209 : tst Tryz.prog 209 = some 11 := by kernel_rfl
theorem tsz_209 : tsz Tryz.prog 209 = 11 := by kernel_rfl
theorem tag_209 : tagg Tryz.prog 209 = true := by kernel_rfl
theorem tf_209_0 : tfld Tryz.prog 209 0 = some (0, 1) := by kernel_rfl
theorem tf_209_1 : tfld Tryz.prog 209 1 = some (1, 1) := by kernel_rfl
theorem tf_209_2 : tfld Tryz.prog 209 2 = some (2, 1) := by kernel_rfl
theorem tf_209_3 : tfld Tryz.prog 209 3 = some (3, 1) := by kernel_rfl
theorem tf_209_4 : tfld Tryz.prog 209 4 = some (4, 1) := by kernel_rfl
theorem tf_209_5 : tfld Tryz.prog 209 5 = some (5, 1) := by kernel_rfl
theorem tf_209_6 : tfld Tryz.prog 209 6 = some (6, 1) := by kernel_rfl
theorem tf_209_8 : tfld Tryz.prog 209 8 = some (8, 1) := by kernel_rfl
theorem tf_209_9 : tfld Tryz.prog 209 9 = some (9, 1) := by kernel_rfl
theorem tf_209_10 : tfld Tryz.prog 209 10 = some (10, 1) := by kernel_rfl
theorem tcv_3_5 : tcv Tryz.prog 3 5 = some (.int .u8) := by kernel_rfl
theorem tcv_5_3 : tcv Tryz.prog 5 3 = some (.int .i64) := by kernel_rfl
theorem tcv_22_9 : tcv Tryz.prog 22 9 = some .b2s := by kernel_rfl
attribute [go_sem] tl_2 ts_2 tz_2 tl_3 ts_3 tz_3 tl_4 ts_4 tz_4 tbo_4 tl_5 ts_5 tz_5 tl_9 ts_9 tz_9 tstr_9 tl_12 ts_12 tz_12 tl_21 ts_21 tz_21 tl_22 ts_22 tz_22 tsl_22 tl_24 ts_24 tz_24 tsz_24 tag_24 tb_24 tf_24_0 tf_24_1 tl_25 ts_25 tz_25 tsz_25 tag_25
attribute [go_sem] tb_25 tf_25_0 tf_25_1 tl_26 ts_26 tz_26 tsl_26 tl_29 ts_29 tz_29 tsl_29 tl_30 ts_30 tz_30 tsl_30 tl_31 ts_31 tz_31 tsl_31 tl_32 ts_32 tz_32 tsz_32 tag_32 tb_32 tf_32_0 tf_32_1 tf_32_2 tl_33 ts_33 tz_33 tsz_33 tag_33 tb_33 tf_33_0 tf_33_1 tf_33_2 tl_34 ts_34 tz_34
attribute [go_sem] tsz_34 tag_34 tb_34 tf_34_0 tf_34_1 tf_34_2 tf_34_3 tl_35 ts_35 tz_35 tsz_35 tag_35 tb_35 tf_35_0 tf_35_1 tf_35_2 tf_35_3 tl_36 ts_36 tz_36 tsl_36 tl_37 ts_37 tz_37 tsz_37 tag_37 tb_37 tf_37_0 tf_37_1 tf_37_2 tl_38 ts_38 tz_38 tsz_38 tag_38 tb_38 tf_38_0 tf_38_1 tf_38_2 tl_39
attribute [go_sem] ts_39 tz_39 tsl_39 tl_40 ts_40 tz_40 tsz_40 tag_40 tb_40 tf_40_0 tf_40_1 tf_40_2 tf_40_3 tf_40_4 tf_40_5 tf_40_6 tf_40_7 tf_40_8 tf_40_9 tf_40_10 tf_40_11 tf_40_12 tf_40_13 tf_40_14 tf_40_15 tf_40_16 tl_41 ts_41 tz_41 tsz_41 tag_41 tb_41 tf_41_0 tf_41_1 tf_41_2 tf_41_3 tf_41_4 tf_41_5 tf_41_6 tf_41_7
attribute [go_sem] tf_41_8 tf_41_9 tf_41_10 tf_41_11 tf_41_12 tf_41_13 tf_41_14 tf_41_15 tf_41_16 tl_42 ts_42 tz_42 tsl_42 tl_43 ts_43 tz_43 tsl_43 tl_44 ts_44 tz_44 tsz_44 tag_44 tb_44 tf_44_0 tf_44_1 tl_45 ts_45 tz_45 tsz_45 tag_45 tb_45 tf_45_0 tf_45_1 tl_46 ts_46 tz_46 tsz_46 tag_46 tb_46 tf_46_0
attribute [go_sem] tf_46_1 tf_46_2 tf_46_3 tf_46_4 tf_46_5 tf_46_6 tf_46_7 tf_46_8 tf_46_9 tf_46_10 tf_46_11 tl_47 ts_47 tz_47 tsz_47 tag_47 tb_47 tf_47_0 tf_47_1 tf_47_2 tf_47_3 tf_47_4 tf_47_5 tf_47_6 tf_47_7 tf_47_8 tf_47_9 tf_47_10 tf_47_11 tl_52 ts_52 tz_52 tsz_52 tag_52 tb_52 tf_52_0 tf_52_1 tf_52_2 tf_52_3 tl_53
attribute [go_sem] ts_53 tz_53 tsz_53 tag_53 tb_53 tf_53_0 tf_53_1 tf_53_2 tf_53_3 tl_54 ts_54 tz_54 tsz_54 tag_54 tb_54 tf_54_0 tf_54_1 tf_54_2 tf_54_3 tf_54_4 tl_55 ts_55 tz_55 tsz_55 tag_55 tb_55 tf_55_0 tf_55_1 tf_55_2 tf_55_3 tf_55_4 tl_56 ts_56 tz_56 tsz_56 tag_56 tb_56 tf_56_0 tf_56_1 tf_56_2
attribute [go_sem] tf_56_3 tf_56_4 tf_56_5 tf_56_6 tf_56_7 tf_56_8 tf_56_9 tf_56_10 tf_56_11 tf_56_12 tf_56_13 tf_56_14 tl_57 ts_57 tz_57 tsz_57 tag_57 tb_57 tf_57_0 tf_57_1 tf_57_2 tf_57_3 tf_57_4 tf_57_5 tf_57_6 tf_57_7 tf_57_8 tf_57_9 tf_57_10 tf_57_11 tf_57_12 tf_57_13 tf_57_14 tl_58 ts_58 tz_58 tsz_58 tag_58 tb_58 tf_58_0
attribute [go_sem] tf_58_1 tf_58_2 tf_58_3 tf_58_4 tf_58_5 tf_58_6 tl_59 ts_59 tz_59 tsz_59 tag_59 tb_59 tf_59_0 tf_59_1 tf_59_2 tf_59_3 tf_59_4 tf_59_5 tf_59_6 tl_65 ts_65 tz_65 tl_81 ts_81 tz_81 tsz_81 tag_81 tb_81 tf_81_0 tf_81_1 tf_81_2 tl_82 ts_82 tz_82 tsz_82 tag_82 tb_82 tf_82_0 tf_82_1 tf_82_2
attribute [go_sem] tl_96 ts_96 tz_96 tl_125 ts_125 tz_125 tsz_125 tag_125 tb_125 tf_125_0 tf_125_1 tf_125_2 tl_126 ts_126 tz_126 tsz_126 tag_126 tb_126 tf_126_0 tf_126_1 tf_126_2 tl_130 ts_130 tz_130 tl_131 ts_131 tz_131 tsz_131 tag_131 tb_131 tf_131_0 tf_131_1 tf_131_2 tf_131_3 tf_131_4 tf_131_5 tf_131_6 tf_131_7 tl_132 ts_132
attribute [go_sem] tz_132 tsz_132 tag_132 tb_132 tf_132_0 tf_132_1 tf_132_2 tf_132_3 tf_132_4 tf_132_5 tf_132_6 tf_132_7 tl_146 ts_146 tz_146 tl_148 ts_148 tz_148 tsl_148 tl_163 ts_163 tz_163 tsz_163 tag_163 tb_163 tf_163_0 tf_163_1 tf_163_2 tf_163_3 tf_163_4 tf_163_5 tl_164 ts_164 tz_164 tsz_164 tag_164 tb_164 tf_164_0 tf_164_1 tf_164_2
attribute [go_sem] tf_164_3 tf_164_4 tf_164_5 tl_166 ts_166 tz_166 tl_169 ts_169 tz_169 tsl_169 tl_178 ts_178 tz_178 tsz_178 tag_178 tb_178 tf_178_0 tf_178_1 tl_179 ts_179 tz_179 tsz_179 tag_179 tb_179 tf_179_0 tf_179_1 tl_196 ts_196 tz_196 tsz_196 tag_196 tb_196 tf_196_0 tf_196_1 tf_196_2 tf_196_3 tl_198 ts_198 tl_199 ts_199
attribute [go_sem] tsz_199 tag_199 tl_202 ts_202 tz_202 tl_206 ts_206 tz_206 tl_209 ts_209 tsz_209 tag_209 tf_209_0 tf_209_1 tf_209_2 tf_209_3 tf_209_4 tf_209_5 tf_209_6 tf_209_8 tf_209_9 tf_209_10 tcv_3_5 tcv_5_3 tcv_22_9
end
section
open Go.RowKit

theorem w64 {n : Int} (h : -9223372036854775808 ≤ n ∧ n ≤ 9223372036854775807) : IntKind.i64.wrap n = n := by
 rw [IntKind.wrap_i64]; omega
theorem w8 {n : Int} (h : 0 ≤ n ∧ n ≤ 255) : IntKind.u8.wrap n = n := by
 rw [IntKind.wrap_u8]; omega
theorem ints_get {l : List Int} {k : Nat} (h : k < l.length) : (l.map intC)[k]? = some [.int .i64 l[k]] := by simp [intC, h]
theorem cast_add (a b : Nat) : ((a + b : Nat) : Int) = (a : Int) + (b : Int) := Int.natCast_add a b
theorem cast_num (n : Nat) : ((OfNat.ofNat n : Nat) : Int) = OfNat.ofNat n := rfl
theorem cast_one : ((1 : Nat) : Int) = 1 := rfl
theorem cast_zero : ((0 : Nat) : Int) = 0 := rfl
theorem take_len_map {α β : Type} (f : α → β) (l : List α) : List.take l.length (List.map f l) = List.map f l := by
 rw [List.take_of_length_le (by simp)]
theorem ez_1 : ((1 : Nat) = 0) = False := eq_false (by decide)
theorem ez_2 : ((2 : Nat) = 0) = False := eq_false (by decide)
theorem ez_3 : ((3 : Nat) = 0) = False := eq_false (by decide)
theorem ez_4 : ((4 : Nat) = 0) = False := eq_false (by decide)
theorem ez_5 : ((5 : Nat) = 0) = False := eq_false (by decide)
theorem ez_6 : ((6 : Nat) = 0) = False := eq_false (by decide)
theorem ez_7 : ((7 : Nat) = 0) = False := eq_false (by decide)
theorem ez_8 : ((8 : Nat) = 0) = False := eq_false (by decide)
theorem ez_9 : ((9 : Nat) = 0) = False := eq_false (by decide)
theorem ez_10 : ((10 : Nat) = 0) = False := eq_false (by decide)
theorem ez_11 : ((11 : Nat) = 0) = False := eq_false (by decide)
theorem ez_12 : ((12 : Nat) = 0) = False := eq_false (by decide)
theorem ez_13 : ((13 : Nat) = 0) = False := eq_false (by decide)
theorem ez_14 : ((14 : Nat) = 0) = False := eq_false (by decide)
theorem ez_15 : ((15 : Nat) = 0) = False := eq_false (by decide)
theorem ez_16 : ((16 : Nat) = 0) = False := eq_false (by decide)
theorem ez_17 : ((17 : Nat) = 0) = False := eq_false (by decide)
theorem ez_18 : ((18 : Nat) = 0) = False := eq_false (by decide)
theorem ez_19 : ((19 : Nat) = 0) = False := eq_false (by decide)
theorem ez_20 : ((20 : Nat) = 0) = False := eq_false (by decide)
theorem ez_21 : ((21 : Nat) = 0) = False := eq_false (by decide)
theorem ez_22 : ((22 : Nat) = 0) = False := eq_false (by decide)
theorem ez_23 : ((23 : Nat) = 0) = False := eq_false (by decide)
theorem ez_24 : ((24 : Nat) = 0) = False := eq_false (by decide)
theorem ez_25 : ((25 : Nat) = 0) = False := eq_false (by decide)
theorem ez_26 : ((26 : Nat) = 0) = False := eq_false (by decide)
theorem ez_27 : ((27 : Nat) = 0) = False := eq_false (by decide)
theorem ez_28 : ((28 : Nat) = 0) = False := eq_false (by decide)
theorem ez_29 : ((29 : Nat) = 0) = False := eq_false (by decide)
theorem ez_30 : ((30 : Nat) = 0) = False := eq_false (by decide)
theorem ez_31 : ((31 : Nat) = 0) = False := eq_false (by decide)
theorem ez_32 : ((32 : Nat) = 0) = False := eq_false (by decide)
theorem ez_33 : ((33 : Nat) = 0) = False := eq_false (by decide)
theorem ez_34 : ((34 : Nat) = 0) = False := eq_false (by decide)
theorem ez_35 : ((35 : Nat) = 0) = False := eq_false (by decide)
theorem ez_36 : ((36 : Nat) = 0) = False := eq_false (by decide)
theorem ez_37 : ((37 : Nat) = 0) = False := eq_false (by decide)
theorem ez_38 : ((38 : Nat) = 0) = False := eq_false (by decide)
theorem ez_39 : ((39 : Nat) = 0) = False := eq_false (by decide)
attribute [go_sem] ez_1 ez_2 ez_3 ez_4 ez_5 ez_6 ez_7 ez_8 ez_9 ez_10 ez_11 ez_12 ez_13 ez_14 ez_15 ez_16 ez_17 ez_18 ez_19 ez_20 ez_21 ez_22 ez_23 ez_24 ez_25 ez_26 ez_27 ez_28 ez_29 ez_30 ez_31 ez_32 ez_33 ez_34 ez_35 ez_36 ez_37 ez_38 ez_39 if_true if_false
attribute [go_sem] ne_eq not_false_eq_true Nat.le_refl take_len_map cast_add cast_num cast_one cast_zero
attribute [go_sem] Bool.false_eq_true false_implies imp_self and_true true_and Bool.false_and Bool.true_and Bool.and_true Bool.and_false
theorem byteSc_byteC (b : UInt8) : byteSc (byteC b) = b := by simp [byteC, byteSc]
theorem map_byteSc (l : List UInt8) : List.map byteSc (List.map byteC l) = l := by
 rw [List.map_map]
 have : byteSc ∘ byteC = id := funext fun b => byteSc_byteC b
 rw [this, List.map_id]
theorem take_1add {α : Type} (n : Nat) (a : α) (l : List α) : List.take (1 + n) (a :: l) = a :: List.take n l := by
 rw [Nat.add_comm]; rfl
theorem drop_1add {α : Type} (n : Nat) (a : α) (l : List α) : List.drop (1 + n) (a :: l) = List.drop n l := by
 rw [Nat.add_comm]; rfl
attribute [go_sem] byteSc_byteC map_byteSc take_1add drop_1add
theorem isByte_byteC (b : UInt8) : isByte (byteC b) = true := by
 rfl
theorem all_byteC (l : List UInt8) : (∀ c, c ∈ List.map byteC l → isByte c = true) = True := by
 refine eq_true fun c hc => ?_
 obtain ⟨b, _, rfl⟩ := List.mem_map.1 hc
 exact isByte_byteC b
theorem getD_at' {α : Type} {l : List α} {k : Nat} (d : α) (h : k < l.length) : l.getD k d = l[k] := by
 rw [List.getD_eq_getElem?_getD, List.getElem?_eq_getElem h]; rfl
theorem ntmod_2 (n : Nat) : (n : Int).tmod 2 = ((n % 2 : Nat) : Int) := by
 rw [Int.tmod_eq_emod_of_nonneg (by omega)]; omega
theorem ntdiv_2 (n : Nat) : (n : Int).tdiv 2 = ((n / 2 : Nat) : Int) := by
 rw [Int.tdiv_eq_ediv_of_nonneg (by omega)]; omega
attribute [go_sem] ntmod_2 ntdiv_2
theorem ntmod_3 (n : Nat) : (n : Int).tmod 3 = ((n % 3 : Nat) : Int) := by
 rw [Int.tmod_eq_emod_of_nonneg (by omega)]; omega
theorem ntdiv_3 (n : Nat) : (n : Int).tdiv 3 = ((n / 3 : Nat) : Int) := by
 rw [Int.tdiv_eq_ediv_of_nonneg (by omega)]; omega
attribute [go_sem] ntmod_3 ntdiv_3
theorem ntmod_4 (n : Nat) : (n : Int).tmod 4 = ((n % 4 : Nat) : Int) := by
 rw [Int.tmod_eq_emod_of_nonneg (by omega)]; omega
theorem ntdiv_4 (n : Nat) : (n : Int).tdiv 4 = ((n / 4 : Nat) : Int) := by
 rw [Int.tdiv_eq_ediv_of_nonneg (by omega)]; omega
attribute [go_sem] ntmod_4 ntdiv_4
theorem ntmod_5 (n : Nat) : (n : Int).tmod 5 = ((n % 5 : Nat) : Int) := by
 rw [Int.tmod_eq_emod_of_nonneg (by omega)]; omega
theorem ntdiv_5 (n : Nat) : (n : Int).tdiv 5 = ((n / 5 : Nat) : Int) := by
 rw [Int.tdiv_eq_ediv_of_nonneg (by omega)]; omega
attribute [go_sem] ntmod_5 ntdiv_5
theorem ntmod_6 (n : Nat) : (n : Int).tmod 6 = ((n % 6 : Nat) : Int) := by
 rw [Int.tmod_eq_emod_of_nonneg (by omega)]; omega
theorem ntdiv_6 (n : Nat) : (n : Int).tdiv 6 = ((n / 6 : Nat) : Int) := by
 rw [Int.tdiv_eq_ediv_of_nonneg (by omega)]; omega
attribute [go_sem] ntmod_6 ntdiv_6
theorem ntmod_8 (n : Nat) : (n : Int).tmod 8 = ((n % 8 : Nat) : Int) := by
 rw [Int.tmod_eq_emod_of_nonneg (by omega)]; omega
theorem ntdiv_8 (n : Nat) : (n : Int).tdiv 8 = ((n / 8 : Nat) : Int) := by
 rw [Int.tdiv_eq_ediv_of_nonneg (by omega)]; omega
attribute [go_sem] ntmod_8 ntdiv_8
theorem ntmod_10 (n : Nat) : (n : Int).tmod 10 = ((n % 10 : Nat) : Int) := by
 rw [Int.tmod_eq_emod_of_nonneg (by omega)]; omega
theorem ntdiv_10 (n : Nat) : (n : Int).tdiv 10 = ((n / 10 : Nat) : Int) := by
 rw [Int.tdiv_eq_ediv_of_nonneg (by omega)]; omega
attribute [go_sem] ntmod_10 ntdiv_10
theorem ntmod_16 (n : Nat) : (n : Int).tmod 16 = ((n % 16 : Nat) : Int) := by
 rw [Int.tmod_eq_emod_of_nonneg (by omega)]; omega
theorem ntdiv_16 (n : Nat) : (n : Int).tdiv 16 = ((n / 16 : Nat) : Int) := by
 rw [Int.tdiv_eq_ediv_of_nonneg (by omega)]; omega
attribute [go_sem] ntmod_16 ntdiv_16
theorem ntmod_32 (n : Nat) : (n : Int).tmod 32 = ((n % 32 : Nat) : Int) := by
 rw [Int.tmod_eq_emod_of_nonneg (by omega)]; omega
theorem ntdiv_32 (n : Nat) : (n : Int).tdiv 32 = ((n / 32 : Nat) : Int) := by
 rw [Int.tdiv_eq_ediv_of_nonneg (by omega)]; omega
attribute [go_sem] ntmod_32 ntdiv_32
theorem toNat_addz {k : Nat} {z : Int} (h : 0 ≤ z) : ((k : Int) + z).toNat = k + z.toNat := by omega
def strC (s : List UInt8) : List Sc := [.st s]
theorem strs_get {l : List (List UInt8)} {k : Nat} (h : k < l.length) : (l.map strC)[k]? = some [.st l[k]] := by simp [strC, h]
theorem getD_u8 {l : List UInt8} {k : Nat} (h : k < l.length) : l.getD k 0 = l[k] := getD_at' 0 h
attribute [go_sem] strC intC
theorem dec_t {a b : Int} (h : a < b) : decide (a < b) = true := decide_eq_true h
theorem dec_f {a b : Int} (h : ¬ a < b) : decide (a < b) = false := decide_eq_false h
theorem dle_t {a b : Int} (h : a ≤ b) : decide (a ≤ b) = true := decide_eq_true h
theorem dle_f {a b : Int} (h : ¬ a ≤ b) : decide (a ≤ b) = false := decide_eq_false h
theorem ieq_t {a b : Int} (h : a = b) : (a == b) = true := beq_iff_eq.2 h
theorem ieq_f {a b : Int} (h : ¬ a = b) : (a == b) = false := beq_eq_false_iff_ne.2 h
theorem ine_t {a b : Int} (h : ¬ a = b) : (a != b) = true := bne_iff_ne.2 h
theorem ine_f {a b : Int} (h : a = b) : (a != b) = false := bne_eq_false_iff_eq.2 h
attribute [go_sem] w64 w8 toNat_addz getD_u8 map_get dec_t dec_f dle_t dle_f ieq_t ieq_f ine_t ine_f List.not_mem_nil implies_true or_imp forall_and forall_eq isByte_byteC all_byteC List.length_append
end
section
open Go.RowKit

theorem byteC_conv {cs : List Value} (h : See0s [.byte] cs) : ∃ n : UInt8, L2 (ScR []) (byteC n) cs ∧ True := by
 obtain ⟨_, _, rfl, ⟨n, rfl, h0, h1⟩, rfl⟩ := h
 refine ⟨UInt8.ofNat n.toNat, ⟨?_, trivial⟩, trivial⟩
 show Value.int .u8 n = .int .u8 ((UInt8.ofNat n.toNat).toNat : Nat)
 congr 1
 rw [UInt8.toNat_ofNat']
 omega
structure CurD where
 i : Nat
 h : Int
def CurD.cs (c : CurD) (b : List UInt8) : List Sc := [.sl 0 0 b.length, .int .i64 (c.i : Nat), .int .i64 c.h]
def CurD.hp (c : CurD) (b : List UInt8) : Hp := [some ⟨b.map byteC, 1, 5, false, true⟩, some ⟨[c.cs b], 3, 82, true, false⟩]
def CurD.ok (c : CurD) (b : List UInt8) : Prop := c.i ≤ b.length ∧ b.length ≤ 1048576
attribute [go_sem] CurD.cs CurD.hp
def and64 (a b : Int) : Int := IntKind.i64.wrap (BitVec.ofInt 64 a &&& BitVec.ofInt 64 b).toNat
def xor64 (a b : Int) : Int := IntKind.i64.wrap (BitVec.ofInt 64 a ^^^ BitVec.ofInt 64 b).toNat
theorem and_255 (a : Int) : 0 ≤ and64 a 255 ∧ and64 a 255 ≤ 255 := by
 have h : (BitVec.ofInt 64 a &&& BitVec.ofInt 64 255).toNat ≤ 255 := by
  rw [BitVec.toNat_and]
  exact Nat.le_trans Nat.and_le_right (by decide)
 have e : and64 a 255 = ((BitVec.ofInt 64 a &&& BitVec.ofInt 64 255).toNat : Int) := w64 (by
  have h' : (BitVec.ofInt 64 a &&& BitVec.ofInt 64 255).toNat ≤ 255 := h
  omega)
 rw [e]
 omega
def CurD.nxt (c : CurD) : Int := IntKind.i64.wrap (IntKind.i64.wrap (c.h * 6364136223846793005) + 1442695040888963407)
def CurD.x0 (c : CurD) : Int := and64 (xor64 (c.nxt.fdiv (2 ^ min 33 64)) (c.nxt.fdiv (2 ^ min 45 64))) 255
def CurD.bv (c : CurD) (b : List UInt8) : Int := if h : c.i < b.length then and64 (IntKind.i64.wrap (c.x0 + b[c.i].toNat)) 255 else c.x0
def CurD.bn (c : CurD) (b : List UInt8) : CurD := if c.i < b.length then ⟨c.i + 1, c.nxt⟩ else ⟨c.i, c.nxt⟩
theorem CurD.bv_le (c : CurD) (b : List UInt8) : 0 ≤ c.bv b ∧ c.bv b ≤ 255 := by
 rw [CurD.bv]
 split
 ·exact and_255 _
 ·exact and_255 _
theorem CurD.bn_ok {c : CurD} {b : List UInt8} (h : c.ok b) : (c.bn b).ok b := by
 rw [CurD.bn]
 split
 ·rename_i hi; exact ⟨hi, h.2⟩
 ·exact h
theorem aInt_and (a b : Int) : aInt .and .i64 a b = some (.int .i64 (and64 a b), True) := rfl
theorem aInt_xor (a b : Int) : aInt .xor .i64 a b = some (.int .i64 (xor64 a b), True) := rfl
theorem nxt_def (c : CurD) : IntKind.i64.wrap (IntKind.i64.wrap (c.h * 6364136223846793005) + 1442695040888963407) = c.nxt := rfl
theorem x0_def (c : CurD) : and64 (xor64 (c.nxt.fdiv (2 ^ min 33 64)) (c.nxt.fdiv (2 ^ min 45 64))) 255 = c.x0 := rfl
theorem spec_l01Byte (b : List UInt8) (c : CurD) (hc : c.ok b) : CallA Tryz.prog 57 [.sc (.pt 1 0 0)] (c.hp b) (.sc (.int .i64 (c.bv b))) ((c.bn b).hp b) := by
 have hi := hc.1
 have hb := hc.2
 refine callA_of Tryz.func57 (by kernel_rfl) rfl fun E hE => run_den 400 ?_
 simp (disch := omega) only [Tryz.ntmps57, Tryz.results57, go_sem, ↓aInt_and, ↓aInt_xor, Nat.reduceEqDiff, Nat.reduceAdd, Nat.reduceSub, Int.reduceAdd, Int.reduceSub, Int.reduceToNat]
 simp only [nxt_def]
 refine den_draw1 [0, 1, 2, 3, 4, 5, 6, 7, 8, 9, 10, 11, 12] (by kernel_rfl) (qC) (by kernel_rfl) (runD_den 400 ?_)
 simp (disch := omega) only [go_sem, ↓aInt_and, ↓aInt_xor, Nat.reduceEqDiff, Nat.reduceAdd, Nat.reduceSub, Int.reduceAdd, Int.reduceSub, Int.reduceToNat]
 simp only [x0_def]
 have hx := and_255 (xor64 (c.nxt.fdiv (2 ^ min 33 64)) (c.nxt.fdiv (2 ^ min 45 64)))
 rw [x0_def] at hx
 have e1 : c.bv b = if h : c.i < b.length then and64 (IntKind.i64.wrap (c.x0 + b[c.i].toNat)) 255 else c.x0 := by rw [CurD.bv]
 have e2 : (c.bn b) = if c.i < b.length then ⟨c.i + 1, c.nxt⟩ else ⟨c.i, c.nxt⟩ := by rw [CurD.bn]
 generalize c.x0 = x0 at *
 generalize c.nxt = nx at *
 refine qG ?_
 refine qD [0, 1, 2, 3, 4, 5, 6, 7, 8, 9] ?_
 refine qG ?_
 refine qB (fun h => ?_) fun h => ?_
 ·have hbn := b[c.i].toNat_lt
  rw [dif_pos h, w64 (by omega)] at e1
  rw [if_pos h] at e2
  rw [e1, e2]
  refine den_draw1 [0, 1, 2, 3, 4, 5, 6, 7, 8, 9, 10, 11, 12, 13, 14] (by kernel_rfl) (qC) (by kernel_rfl) (runD_den 400 ?_)
  simp (disch := omega) only [go_sem, byteC, ↓aInt_and, ↓aInt_xor, Nat.reduceEqDiff, Nat.reduceAdd, Nat.reduceSub, Int.reduceAdd, Int.reduceSub, Int.reduceToNat]
  generalize and64 (x0 + b[c.i].toNat) 255 = y
  refine qG ?_
  exact qF (qA [0, 1])
 ·rw [dif_neg h] at e1
  rw [if_neg h] at e2
  rw [e1, e2]
  exact qF (qA [0, 1])
def CurD.below (c : CurD) (b : List UInt8) (n : Int) : Int × CurD :=
 if n ≤ 0 then (0, c) else if n ≤ 256 then ((c.bv b).tmod n, (c.bn b)) else ((c.bv b * 16777216 + (c.bn b).bv b * 65536 + ((c.bn b).bn b).bv b * 256 + (((c.bn b).bn b).bn b).bv b).tmod n, (((c.bn b).bn b).bn b).bn b)
theorem CurD.below_ok {b : List UInt8} {c : CurD} (h : c.ok b) (n : Int) : (c.below b n).2.ok b := by
 rw [CurD.below]
 split
 ·exact h
 ·split
  ·exact CurD.bn_ok h
  ·exact CurD.bn_ok (CurD.bn_ok (CurD.bn_ok (CurD.bn_ok h)))
theorem CurD.below_lt (c : CurD) (b : List UInt8) {n : Int} (h : 0 < n) : 0 ≤ (c.below b n).1 ∧ (c.below b n).1 < n := by
 have t : ∀ m : Int, 0 ≤ m → 0 ≤ m.tmod n ∧ m.tmod n < n := fun m hm => ⟨Int.tmod_nonneg _ hm, Int.tmod_lt_of_pos _ h⟩
 have h0 := c.bv_le b
 have h1 := (c.bn b).bv_le b
 have h2 := ((c.bn b).bn b).bv_le b
 have h3 := (((c.bn b).bn b).bn b).bv_le b
 rw [CurD.below, if_neg (by omega)]
 split
 ·exact t _ h0.1
 ·exact t _ (by omega)
theorem spec_l01Below (b : List UInt8) (c : CurD) (hc : c.ok b) (n : Int) : CallA Tryz.prog 26 [.sc (.pt 1 0 0), .sc (.int .i64 n)] (c.hp b) (.sc (.int .i64 (c.below b n).1)) ((c.below b n).2.hp b) := by
 have h0 := c.bv_le b
 have h1 := (c.bn b).bv_le b
 have h2 := ((c.bn b).bn b).bv_le b
 have h3 := (((c.bn b).bn b).bn b).bv_le b
 have k1 := CurD.bn_ok hc
 have k2 := CurD.bn_ok k1
 have k3 := CurD.bn_ok k2
 obtain ⟨r, hr⟩ : ∃ r, r = c.below b n := ⟨_, rfl⟩
 rw [← hr]
 rw [CurD.below] at hr
 refine qE Tryz.func26 Tryz.ntmps26 Tryz.results26 fun E hE => ?_
 refine qB (fun h => ?_) fun h => ?_
 ·rw [if_pos (by omega)] at hr
  subst hr
  exact qF (qA [0, 1])
 ·rw [if_neg (by omega)] at hr
  refine qB (fun h4 => ?_) fun h4 => ?_
  ·rw [if_pos (by omega)] at hr
   refine qK (spec_l01Byte b c hc) (qA [0, 1]) ?_
   subst hr
   exact qF (qA [0, 1])
  ·rw [if_neg (by omega)] at hr
   refine qK (spec_l01Byte b c hc) (qA [0, 1]) ?_
   refine qK (spec_l01Byte b (c.bn b) k1) (qA [0, 1]) ?_
   refine qK (spec_l01Byte b ((c.bn b).bn b) k2) (qA [0, 1]) ?_
   refine qK (spec_l01Byte b (((c.bn b).bn b).bn b) k3) (qA [0, 1]) ?_
   subst hr
   exact qF (qA [0, 1])
theorem spec_l01Once (b : List UInt8) (c : CurD) (hc : c.ok b) (n : Int) : CallA Tryz.prog 60 [.sc (.pt 1 0 0), .sc (.int .i64 n)] (c.hp b) (.sc (.bo ((c.below b n).1 == 0))) ((c.below b n).2.hp b) := by
 refine qE Tryz.func60 Tryz.ntmps60 Tryz.results60 fun E hE => ?_
 refine qK (spec_l01Below b c hc n) (qA [0, 1]) ?_
 exact qF (qA [0, 1])
def CurD.pick (c : CurD) (b : List UInt8) (l : List Int) : Int := l.getD (c.below b l.length).1.toNat 0
theorem spec_l01PickInt (b : List UInt8) (c : CurD) (hc : c.ok b) (l : List Int) (h0 : 0 < l.length) (hl : l.length ≤ 1000) : CallA Tryz.prog 58 [.sc (.pt 1 0 0), .sc (.sl 2 0 l.length)] (c.hp b ++ [some ⟨l.map intC, 1, 3, false, true⟩]) (.sc (.int .i64 (c.pick b l))) (((c.below b l.length).2.hp b) ++ [some ⟨l.map intC, 1, 3, false, true⟩]) := by
 have hb := c.below_lt b (n := (l.length : Int)) (by omega)
 have hp : c.pick b l = l.getD (c.below b l.length).1.toNat 0 := rfl
 have hk := spec_l01Below b c hc l.length
 rw [hp]
 generalize c.below b l.length = r at *
 obtain ⟨v, c1⟩ := r
 dsimp only at hb hk ⊢
 obtain ⟨k, rfl⟩ := Int.eq_ofNat_of_zero_le hb.1
 refine qE Tryz.func58 Tryz.ntmps58 Tryz.results58 fun E hE => ?_
 refine qK (hk) (qA [0, 1]) ?_
 have hlt : k < l.length := by omega
 try simp (disch := omega) only [go_sem, Nat.reduceEqDiff, Nat.reduceAdd, Nat.reduceSub, Int.reduceAdd, Int.reduceSub, Int.reduceToNat, getD_at' _ hlt]
 exact qF (qA [0, 1, 2])
theorem CurD.pick_mem (c : CurD) (b : List UInt8) {l : List Int} (h : 0 < l.length) : c.pick b l ∈ l := by
 have hb := c.below_lt b (n := (l.length : Int)) (by omega)
 rw [CurD.pick, List.getD_eq_getElem?_getD, List.getElem?_eq_getElem (by omega)]
 exact List.getElem_mem _
def stepH (h : Int) (x : UInt8) : Int := and64 (IntKind.i64.wrap (IntKind.i64.wrap (IntKind.i64.wrap (h * 131) + x.toNat) + 7)) 1073741823
def newH (b : List UInt8) : Int := (b.take 4000).foldl stepH (94701 + (b.length : Int))
def newCur (b : List UInt8) : CurD := ⟨0, newH b⟩
theorem newCur_ok {b : List UInt8} (h : b.length ≤ 1048576) : (newCur b).ok b := ⟨Nat.zero_le _, h⟩
theorem newH_step {b : List UInt8} {k : Nat} {h0 : Int} (h : k < b.length) : (b.take (k + 1)).foldl stepH h0 = stepH ((b.take k).foldl stepH h0) b[k] := by
 rw [List.take_succ_eq_append_getElem h, List.foldl_append]
 rfl
theorem spec_l01New (b : List UInt8) (hb : b.length ≤ 1048576) : CallA Tryz.prog 12 [.sc (.sl 0 0 b.length)] [some ⟨b.map byteC, 1, 5, false, true⟩] (.sc (.pt 1 0 0)) ((newCur b).hp b) := by
 refine qE Tryz.func12 Tryz.ntmps12 Tryz.results12 fun E hE => ?_
 refine den_lp 1 hE (fun s (k : Nat) => s.at [5, 6, 7, 8, 9, 10, 11, 12, 13, 14, 15, 16, 17, 18, 19, 20, 21, 22, 23, 24, 25, 26, 27] [(4, .sc (.int .i64 (k : Nat))), (3, .sc (.int .i64 ((b.take k).foldl stepH (94701 + (b.length : Int)))))] (s.hp)) (fun (k : Nat) => k ≤ b.length ∧ k ≤ 4000) (fun (k : Nat) => b.length - k) 0 (qA [0]) (qC) (⟨Nat.zero_le _, Nat.zero_le _⟩) (weak_mk (by rfl) (by rfl) ?_) fun k hk N hN => ?_
 ·refine qX ?_
  rfl
 ·refine qR ?_
  refine qB (fun h1 => ?_) fun h1 => ?_
  ·split <;> rename_i h2 <;> simp only [decide_eq_true_eq, decide_eq_false_iff_not] at h2
   ·simp (disch := omega) only [go_sem, byteC, ↓aInt_and, Nat.reduceEqDiff, Nat.reduceAdd, Nat.reduceSub, Int.reduceAdd, Int.reduceSub, Int.reduceToNat]
    refine ⟨qC, hN _ (k + 1) (qA [0]) (by (try dsimp only); exact ⟨by omega, by omega⟩) (by (try dsimp only); omega) (weak_mk (by rfl) (by rfl) ?_)⟩
    refine qX ?_
    rw [newH_step h1, w64 (n := (b[k].toNat : Int)) (by have := b[k].toNat_lt; omega)]
    rfl
   ·have e : newH b = (b.take k).foldl stepH (94701 + (b.length : Int)) := by
     rw [newH, show k = 4000 by omega]
    refine qX ?_
    refine qJ (qA [0, 1]) ?_
    rw [newCur, e]
    exact ⟨rfl, rfl⟩
  ·have e : newH b = (b.take k).foldl stepH (94701 + (b.length : Int)) := by
    rw [newH, List.take_of_length_le (by omega), List.take_of_length_le (by omega)]
   refine qJ (qA [0, 1]) ?_
   rw [newCur, e]
   exact ⟨rfl, rfl⟩
end
section
open Go.RowKit

def pols : List PolicyD := [⟨1, 0⟩, ⟨2, 1⟩, ⟨2, 2⟩, ⟨2, 3⟩, ⟨2, 4⟩, ⟨3, 0⟩]
theorem spec_l12Policy (b : List UInt8) (c : CurD) (hc : c.ok b) : ∃ (p : PolicyD) (c' : CurD), c'.ok b ∧ p ∈ pols ∧ CallA Tryz.prog 13 [.sc (.pt 1 0 0)] (c.hp b) (.ag p.cs) (c'.hp b) := by
 have h3 := spec_l01Below b c hc 3
 have o3 := CurD.below_ok hc 3
 have b3 := c.below_lt b (n := 3) (by omega)
 generalize c.below b 3 = r3 at h3 o3 b3
 obtain ⟨v, c1⟩ := r3
 dsimp only at h3 o3 b3
 have hv : v = 0 ∨ v = 1 ∨ v = 2 := by omega
 rcases hv with rfl | rfl | rfl
 ·refine ⟨⟨1, 0⟩, c1, o3, by decide, ?_⟩
  refine qE Tryz.func13 Tryz.ntmps13 Tryz.results13 fun E hE => ?_
  refine qK (h3) (qA [0, 1]) ?_
  exact qF (qA [0, 1])
 ·have h4 := spec_l01Below b c1 o3 4
  have o4 := CurD.below_ok o3 4
  have b4 := c1.below_lt b (n := 4) (by omega)
  generalize c1.below b 4 = r4 at h4 o4 b4
  obtain ⟨u, c2⟩ := r4
  dsimp only at h4 o4 b4
  refine ⟨⟨2, 1 + u⟩, c2, o4, ?_, ?_⟩
  ·have hu : u = 0 ∨ u = 1 ∨ u = 2 ∨ u = 3 := by omega
   rcases hu with rfl | rfl | rfl | rfl <;> decide
  ·refine qE Tryz.func13 Tryz.ntmps13 Tryz.results13 fun E hE => ?_
   refine qK (h3) (qA [0, 1]) ?_
   refine qK (h4) (qA [0, 1]) ?_
   exact qF (qA [0, 1])
 ·refine ⟨⟨3, 0⟩, c1, o3, by decide, ?_⟩
  refine qE Tryz.func13 Tryz.ntmps13 Tryz.results13 fun E hE => ?_
  refine qK (h3) (qA [0, 1]) ?_
  exact qF (qA [0, 1])
end
section
def isN (n : Int) : Bool := decide (0 ≤ n) && decide (n ≤ 1000000000)
def inR (n a b : Int) : Bool := decide (a ≤ n) && decide (n ≤ b)
def letNums (x : LetterD) : List Int := [x.frm, x.to, x.port, x.key, x.token, x.nonce, x.give, x.sgn, x.id, x.addr, x.pos, x.tag.kind, x.tag.one, x.tag.two, x.tag.a, x.tag.b]
def letOk (x : LetterD) : Bool := inR x.kind 1 13 && (letNums x).all isN && decide (x.text.length ≤ 20)
def polOk (p : PolicyD) : Bool := if p.kind = 2 then inR p.many 1 8 else (p.kind == 1 || p.kind == 3) && p.many == 0
end
end Go.Proofs.YtkabkkjnemongaaGreat
