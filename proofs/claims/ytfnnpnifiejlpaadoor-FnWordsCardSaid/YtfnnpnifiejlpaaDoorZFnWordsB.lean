/-
  Texts merged for this claim by shake.py: what its proof needs.
-/
import Derived.Tactics
import Derived.Below
import Derived.Laws.AppendOwn
import Derived.Laws.OwnMore
import Derived.Laws.Slices
import Derived.Laws.Small
import Derived.Laws.Strings
import Derived.KernelRfl
import Derived.Laws.MakeOwn
import Derived.Laws.BytesString
import Derived.Laws.BytesArg
import Derived.Laws.Build
import Derived.Laws.Concat
import Derived.Laws.StructEq
import Derived.Lib.ConvBytes
import Derived.Orders
import Derived.WalkKit
import Derived.ProofKit
import Derived.ShutString
import Derived.OpenShut
import Derived.ChangeOld
import Derived.Carry
import Derived.Test.YtfnnpnifiejlpaaDoorChecked
import Derived.Laws.BitsLemmas
import Derived.StillTail
import Derived.Test.YtfnnpnifiejlpaaDoorRows
import Derived.Test.YtfnnpnifiejlpaaDoorCards
import Derived.Test.YtfnnpnifiejlpaaDoorTie
import Derived.ChangeVars
import Derived.LaidMore
import Derived.Lay
import Derived.SevenTiedAt
import Derived.Stop.Joined
import Derived.Test.YtfnnpnifiejlpaaDoorZFnWordsA
set_option maxHeartbeats 16000000
set_option maxRecDepth 100000
set_option linter.unusedVariables false
set_option linter.unusedSimpArgs false
namespace Go.Proofs.YtfnnpnifiejlpaaDoor
section
open Go.RowKit

def aRes1 (P : Program) (s : S) : ResultVar → Option AV
 | .tmp t => s.sl.get t
 | .cell a t => match s.sl.get a with
  | some (.sc (.pt o k j)) => match s.obj o with
   | some ob => match ob.cs[k]? with
    | some c => match tagg P t with
     | true => if j + tsz P t ≤ c.length then some (.ag ((c.drop j).take (tsz P t))) else none
     | false => if tknown P t then match c[j]? with
      | some x => some (.sc x)
      | none => none else none
    | none => none
   | none => none
  | _ => none
def aRess (P : Program) (s : S) : List ResultVar → Option (List AV)
 | [] => some []
 | r :: l => match aRes1 P s r, aRess P s l with
  | some v, some m => some (v :: m)
  | _, _ => none
def toCos : List AV → Option (List Co)
 | [] => some []
 | .sc x :: l => match toCos l with
  | some m => some (.sc x :: m)
  | none => none
 | .ag x :: l => match toCos l with
  | some m => some (.ag x :: m)
  | none => none
 | _ :: _ => none
def aRes (P : Program) (s : S) (rs : List ResultVar) : Option AV :=
 match aRess P s rs with
 | some [v] => some v
 | some l => match toCos l with
  | some m => some (.tu m)
  | none => none
 | none => none
section
variable {P : Program} {β : Be} {s : S} {w : World} {tm : Array Value}
def resRun (tm : Array Value) : ResultVar → Sem Value
 | .tmp t => pure (tm.getD t undef)
 | .cell a t => do loadVar t (← asAddr (tm.getD a undef))
theorem aRes1_R (hs : HSim β s.hp w) (hsl : SlotsR β s.sl tm) {r : ResultVar} {v : AV} (h : aRes1 P s r = some v) : ∃ u, (resRun tm r).run P w = .ok u w ∧ AVR β v u := by
 have slot : ∀ {t : Nat} {x : AV}, s.sl.get t = some x → AVR β x (tm.getD t undef) := by
  intro t x hx
  obtain ⟨u, hu, hr⟩ := hsl.2 t x hx
  have : tm.getD t undef = u := by simp [Array.getD_eq_getD_getElem?, hu]
  rw [this]; exact hr
 cases r with
 | tmp t => exact ⟨_, rfl, slot h⟩
 | cell a t =>
  simp only [aRes1] at h
  split at h
  ·rename_i o k j hx
   have hv : ScR β (.pt o k j) (tm.getD a undef) := slot hx
   have hrun : ∀ {u : Value}, (Instr.loadAt t (tm.getD a undef)).run P w = .ok u w → (resRun tm (.cell a t)).run P w = .ok u w := by
    intro u hu
    obtain ⟨p, _, hpe⟩ := hv
    rw [hpe] at hu
    show ((do loadVar t (← asAddr (tm.getD a undef)) : Sem Value)).run P w = .ok u w
    rw [hpe]
    simpa [Instr.loadAt, Instr.sureAddr, asAddr] using hu
   split at h
   ·rename_i ob hob
    split at h
    ·rename_i c hk
     split at h
     ·rename_i hag
      split at h
      ·rename_i hn
       simp only [Option.some.injEq] at h
       subst h
       obtain ⟨vs, h1, h2⟩ := run_load_agg hs hob hk hag hn hv
       exact ⟨_, hrun h1, vs, rfl, h2⟩
      ·cases h
     ·rename_i hag
      split at h
      ·rename_i hkn
       split at h
       ·rename_i y hy
        simp only [Option.some.injEq] at h
        subst h
        obtain ⟨u, h1, h2⟩ := run_load_one hs hob hk hag hkn hy hv
        exact ⟨u, hrun h1, h2⟩
       ·cases h
      ·cases h
    ·cases h
   ·cases h
  ·cases h
theorem aRess_R (hs : HSim β s.hp w) (hsl : SlotsR β s.sl tm) : ∀ {rs : List ResultVar} {l : List AV}, aRess P s rs = some l → ∃ us, (rs.mapM (resRun tm)).run P w = .ok us w ∧ L2 (AVR β) l us
 | [], l, h => by
  simp only [aRess, Option.some.injEq] at h
  subst h
  exact ⟨[], rfl, trivial⟩
 | r :: rs, l, h => by
  simp only [aRess] at h
  split at h
  ·rename_i v m hv hm
   simp only [Option.some.injEq] at h
   subst h
   obtain ⟨u, h1, h2⟩ := aRes1_R hs hsl hv
   obtain ⟨us, h3, h4⟩ := aRess_R hs hsl hm
   refine ⟨u :: us, ?_, h2, h4⟩
   simp only [List.mapM_cons, Sem.run_bind, h1, Result.andThen_ok, h3, Sem.run_pure]
  ·cases h
theorem toCos_R : ∀ {l : List AV} {m : List Co} {us : List Value}, toCos l = some m → L2 (AVR β) l us → L2 (CoR β) m us
 | [], m, [], h, _ => by simp only [toCos, Option.some.injEq] at h; subst h; trivial
 | .sc x :: l, m, u :: us, h, hu => by
  simp only [toCos] at h
  split at h
  ·rename_i m' hm
   simp only [Option.some.injEq] at h
   subst h
   exact ⟨hu.1, toCos_R hm hu.2⟩
  ·cases h
 | .ag x :: l, m, u :: us, h, hu => by
  simp only [toCos] at h
  split at h
  ·rename_i m' hm
   simp only [Option.some.injEq] at h
   subst h
   exact ⟨hu.1, toCos_R hm hu.2⟩
  ·cases h
 | .tu x :: l, m, us, h, _ => by cases h
 | .cl f x :: l, m, us, h, _ => by cases h
 | [], m, _ :: _, _, hu => hu.elim
 | .sc _ :: _, m, [], _, hu => hu.elim
 | .ag _ :: _, m, [], _, hu => hu.elim
theorem results_eq (fn : Func) (tm : Array Value) : results fn tm = (do let vs ← fn.results.mapM (resRun tm); pure (if h : vs.size = 1 then vs[0] else .tuple vs)) := by
 unfold results
 congr 1
theorem aRes_R (hs : HSim β s.hp w) (hsl : SlotsR β s.sl tm) {fn : Func} {v : AV} (h : aRes P s fn.results.toList = some v) : ∃ u, (results fn tm).run P w = .ok u w ∧ AVR β v u := by
 have harr : ∀ {us : List Value}, (fn.results.toList.mapM (resRun tm)).run P w = .ok us w → (fn.results.mapM (resRun tm)).run P w = .ok us.toArray w := by
  intro us hus
  rw [Array.mapM_eq_mapM_toList]
  have e : ∀ (m : Sem (List Value)), (List.toArray <$> m) = (do pure (List.toArray (← m))) := fun m => rfl
  rw [e, Sem.run_bind, hus]
  rfl
 unfold aRes at h
 split at h
 ·rename_i x hx
  simp only [Option.some.injEq] at h
  subst h
  obtain ⟨us, h1, h2⟩ := aRess_R (P := P) hs hsl hx
  match us, h2 with
  | [u], h2 =>
   refine ⟨u, ?_, h2.1⟩
   rw [results_eq, Sem.run_bind, harr h1]
   rfl
  | [], h2 => exact h2.elim
  | _ :: _ :: _, h2 => exact h2.2.elim
 ·rename_i l hne hx
  split at h
  ·rename_i m hm
   simp only [Option.some.injEq] at h
   subst h
   obtain ⟨us, h1, h2⟩ := aRess_R (P := P) hs hsl hx
   refine ⟨.tuple us.toArray, ?_, us, rfl, toCos_R hm h2⟩
   rw [results_eq, Sem.run_bind, harr h1]
   have hl := h2.length
   have h1' : us.toArray.size ≠ 1 := by
    intro he
    have : l.length = 1 := by simpa [hl] using he
    match l, this with
    | [v], _ => exact hne v rfl
   simp only [Result.andThen_ok, dif_neg h1']
   rfl
  ·cases h
 ·cases h
end
def EndF (P : Program) (rs : List ResultVar) (n0 : Nat) (res : AV) (h' : Hp) (s : S) : Prop :=
 ∃ v ρ, aRes P s rs = some v ∧ idB n0 0 ρ = true ∧ sepB ρ h' = true ∧ avM ρ res v ∧ hpM ρ s.hp ρ h'
theorem den_fin {P : Program} {E : Entry} {rs : List ResultVar} {n0 : Nat} {res : AV} {h' : Hp} {s : S} {c : Prop} (ρ : Rho) (hc : c) (v : AV) (hr : aRes P s rs = some v) (hid : idB n0 0 ρ = true) (hsep : sepB ρ h' = true) (hm : avM ρ res v ∧ hpM ρ s.hp ρ h') :
  den P E (EndF P rs n0 res h') (.fin s c) := ⟨hc, v, ρ, hr, hid, hsep, hm.1, hm.2⟩
theorem callA_of {P : Program} {f : FuncId} {fn : Func} {c : Code} (hf : P.funcs[f]? = some fn) (hname : (fn.name == "runtime.NumGoroutine") = false) (hb : fn.body = some c) {args : List AV} {h h' : Hp} {res : AV}
  (H : ∀ E : Entry, E.h.length = h.length → den P E (EndF P fn.results.toList h.length res h') (.go [.code c] ⟨initS fn.ntmps args, h⟩ True)) : CallA P f args h res h' := by
 refine ⟨⟨fn, hf, hname, by rw [hb]; rfl⟩, fun β w vs hs hvs => ?_⟩
 refine calls_of_wp hf hb ?_
 let E : Entry := ⟨β, h, w⟩
 have hd := (H E rfl).2
 refine hd β _ w ⟨rfl, initS_R hvs, hs, hs.len, StepR.refl β h w hs.len⟩ _ fun e s' β' a' w' hK hs' => ?_
 have key : EndF P fn.results.toList h.length res h' s' → a'.defers = [] ∧ ∃ v, (results fn a'.tmps).run P w' = .ok v w' ∧ ∃ β'' u, Ending.returned v = .returned u ∧ AVR β'' res u ∧ HSim β'' h' w' ∧ StepR β β'' h h' w w' := by
  intro ⟨v, ρ, hr, hid, hsep, hav, hhp⟩
  obtain ⟨u, hrun, hu⟩ := aRes_R hs'.hp hs'.sl hr
  have hw : WeakS ρ h.length ⟨[], h'⟩ ⟨[], s'.hp⟩ := ⟨hid, hsep, trivial, hhp⟩
  have hsim := sim_weak (E := E) rfl hw (β := β') (a := a') (w := w') ⟨hs'.dfr, ⟨fun i hi => by simp [Slots.has] at hi, fun i x hx => by simp [Slots.get] at hx⟩, hs'.hp, hs'.ent, hs'.st⟩
  exact ⟨hs'.dfr, u, hrun, beOf β' ρ, u, rfl, avM_R hav hu, hsim.hp, hsim.st⟩
 cases e with
 | normal => exact key hK
 | ret => exact key hK
 | _ => exact hK.elim
end
section
theorem nameAt_eq (ρ : Rho) (N o : Nat) : nameAt ρ N o = match ρ[o]? with
  | some x => x
  | none => some (N + (o - ρ.length), none) := by
 unfold nameAt
 by_cases h : o < ρ.length
 ·rw [if_pos h, List.getElem?_eq_getElem h]
  unfold Rho.at
  rw [List.getD_eq_getElem?_getD, List.getElem?_eq_getElem h]
  rfl
 ·rw [if_neg h, List.getElem?_eq_none (by omega)]
attribute [go_sem] run stepG stepOp exitK guardOf aop aBin aInt aAppend aSlice optInt S.ev S.evs S.put S.obj S.new S.val S.valc S.parts S.scals Slots.get Slots.put Sc.ofV scs AV.ofV AV.cells Co.av fillA fillL over spl lenIs fits leB scAll flatC flatL Sc.isFlat padN initS chunks renAV renSc renC renCo renTu renCs renOb renHp optOb updH hpCall nameAt_eq Rho.at S.kill S.sets S.at Int.toNat_natCast List.length_map aRes aRess aRes1 toCos scEq scsEq avM avsM scM cM coM tuM csM hpM obM slM slM1 beq_self_eq_true
attribute [go_sem] List.map_cons List.map_nil List.cons_append List.nil_append List.append_nil List.take_succ_cons List.take_zero List.take_nil List.drop_succ_cons List.drop_zero List.drop_nil List.getD_cons_zero List.getD_cons_succ List.getD_nil List.set_cons_zero List.set_cons_succ List.getElem?_cons_zero List.getElem?_cons_succ List.getElem?_nil List.length_cons List.length_nil List.getElem?_toArray List.toList_toArray Option.map_some Option.map_none Option.bind_some Bool.and_true Bool.true_and Bool.and_self and_true true_and and_self if_true if_false List.replicate_succ List.replicate_zero Nat.zero_add Nat.add_zero Bool.not_true Bool.not_false beq_true beq_false List.mem_cons
theorem arr_append {α : Type} (l m : List α) : Array.append l.toArray m.toArray = (l ++ m).toArray := by simp
attribute [go_sem] arr_append
theorem d16_0 : (0 : Nat) / 16 = 0 := rfl
theorem m16_0 : (0 : Nat) % 16 = 0 := rfl
theorem d16_1 : (1 : Nat) / 16 = 0 := rfl
theorem m16_1 : (1 : Nat) % 16 = 1 := rfl
theorem d16_2 : (2 : Nat) / 16 = 0 := rfl
theorem m16_2 : (2 : Nat) % 16 = 2 := rfl
theorem d16_3 : (3 : Nat) / 16 = 0 := rfl
theorem m16_3 : (3 : Nat) % 16 = 3 := rfl
theorem d16_4 : (4 : Nat) / 16 = 0 := rfl
theorem m16_4 : (4 : Nat) % 16 = 4 := rfl
theorem d16_5 : (5 : Nat) / 16 = 0 := rfl
theorem m16_5 : (5 : Nat) % 16 = 5 := rfl
theorem d16_6 : (6 : Nat) / 16 = 0 := rfl
theorem m16_6 : (6 : Nat) % 16 = 6 := rfl
theorem d16_7 : (7 : Nat) / 16 = 0 := rfl
theorem m16_7 : (7 : Nat) % 16 = 7 := rfl
theorem d16_8 : (8 : Nat) / 16 = 0 := rfl
theorem m16_8 : (8 : Nat) % 16 = 8 := rfl
theorem d16_9 : (9 : Nat) / 16 = 0 := rfl
theorem m16_9 : (9 : Nat) % 16 = 9 := rfl
theorem d16_10 : (10 : Nat) / 16 = 0 := rfl
theorem m16_10 : (10 : Nat) % 16 = 10 := rfl
theorem d16_11 : (11 : Nat) / 16 = 0 := rfl
theorem m16_11 : (11 : Nat) % 16 = 11 := rfl
theorem d16_12 : (12 : Nat) / 16 = 0 := rfl
theorem m16_12 : (12 : Nat) % 16 = 12 := rfl
theorem d16_13 : (13 : Nat) / 16 = 0 := rfl
theorem m16_13 : (13 : Nat) % 16 = 13 := rfl
theorem d16_14 : (14 : Nat) / 16 = 0 := rfl
theorem m16_14 : (14 : Nat) % 16 = 14 := rfl
theorem d16_15 : (15 : Nat) / 16 = 0 := rfl
theorem m16_15 : (15 : Nat) % 16 = 15 := rfl
theorem d16_16 : (16 : Nat) / 16 = 1 := rfl
theorem m16_16 : (16 : Nat) % 16 = 0 := rfl
theorem d16_17 : (17 : Nat) / 16 = 1 := rfl
theorem m16_17 : (17 : Nat) % 16 = 1 := rfl
theorem d16_18 : (18 : Nat) / 16 = 1 := rfl
theorem m16_18 : (18 : Nat) % 16 = 2 := rfl
theorem d16_19 : (19 : Nat) / 16 = 1 := rfl
theorem m16_19 : (19 : Nat) % 16 = 3 := rfl
theorem d16_20 : (20 : Nat) / 16 = 1 := rfl
theorem m16_20 : (20 : Nat) % 16 = 4 := rfl
theorem d16_21 : (21 : Nat) / 16 = 1 := rfl
theorem m16_21 : (21 : Nat) % 16 = 5 := rfl
theorem d16_22 : (22 : Nat) / 16 = 1 := rfl
theorem m16_22 : (22 : Nat) % 16 = 6 := rfl
theorem d16_23 : (23 : Nat) / 16 = 1 := rfl
theorem m16_23 : (23 : Nat) % 16 = 7 := rfl
theorem d16_24 : (24 : Nat) / 16 = 1 := rfl
theorem m16_24 : (24 : Nat) % 16 = 8 := rfl
theorem d16_25 : (25 : Nat) / 16 = 1 := rfl
theorem m16_25 : (25 : Nat) % 16 = 9 := rfl
theorem d16_26 : (26 : Nat) / 16 = 1 := rfl
theorem m16_26 : (26 : Nat) % 16 = 10 := rfl
theorem d16_27 : (27 : Nat) / 16 = 1 := rfl
theorem m16_27 : (27 : Nat) % 16 = 11 := rfl
theorem d16_28 : (28 : Nat) / 16 = 1 := rfl
theorem m16_28 : (28 : Nat) % 16 = 12 := rfl
theorem d16_29 : (29 : Nat) / 16 = 1 := rfl
theorem m16_29 : (29 : Nat) % 16 = 13 := rfl
theorem d16_30 : (30 : Nat) / 16 = 1 := rfl
theorem m16_30 : (30 : Nat) % 16 = 14 := rfl
theorem d16_31 : (31 : Nat) / 16 = 1 := rfl
theorem m16_31 : (31 : Nat) % 16 = 15 := rfl
theorem d16_32 : (32 : Nat) / 16 = 2 := rfl
theorem m16_32 : (32 : Nat) % 16 = 0 := rfl
theorem d16_33 : (33 : Nat) / 16 = 2 := rfl
theorem m16_33 : (33 : Nat) % 16 = 1 := rfl
theorem d16_34 : (34 : Nat) / 16 = 2 := rfl
theorem m16_34 : (34 : Nat) % 16 = 2 := rfl
theorem d16_35 : (35 : Nat) / 16 = 2 := rfl
theorem m16_35 : (35 : Nat) % 16 = 3 := rfl
theorem d16_36 : (36 : Nat) / 16 = 2 := rfl
theorem m16_36 : (36 : Nat) % 16 = 4 := rfl
theorem d16_37 : (37 : Nat) / 16 = 2 := rfl
theorem m16_37 : (37 : Nat) % 16 = 5 := rfl
theorem d16_38 : (38 : Nat) / 16 = 2 := rfl
theorem m16_38 : (38 : Nat) % 16 = 6 := rfl
theorem d16_39 : (39 : Nat) / 16 = 2 := rfl
theorem m16_39 : (39 : Nat) % 16 = 7 := rfl
theorem d16_40 : (40 : Nat) / 16 = 2 := rfl
theorem m16_40 : (40 : Nat) % 16 = 8 := rfl
theorem d16_41 : (41 : Nat) / 16 = 2 := rfl
theorem m16_41 : (41 : Nat) % 16 = 9 := rfl
theorem d16_42 : (42 : Nat) / 16 = 2 := rfl
theorem m16_42 : (42 : Nat) % 16 = 10 := rfl
theorem d16_43 : (43 : Nat) / 16 = 2 := rfl
theorem m16_43 : (43 : Nat) % 16 = 11 := rfl
theorem d16_44 : (44 : Nat) / 16 = 2 := rfl
theorem m16_44 : (44 : Nat) % 16 = 12 := rfl
theorem d16_45 : (45 : Nat) / 16 = 2 := rfl
theorem m16_45 : (45 : Nat) % 16 = 13 := rfl
theorem d16_46 : (46 : Nat) / 16 = 2 := rfl
theorem m16_46 : (46 : Nat) % 16 = 14 := rfl
theorem d16_47 : (47 : Nat) / 16 = 2 := rfl
theorem m16_47 : (47 : Nat) % 16 = 15 := rfl
theorem d16_48 : (48 : Nat) / 16 = 3 := rfl
theorem m16_48 : (48 : Nat) % 16 = 0 := rfl
theorem d16_49 : (49 : Nat) / 16 = 3 := rfl
theorem m16_49 : (49 : Nat) % 16 = 1 := rfl
theorem d16_50 : (50 : Nat) / 16 = 3 := rfl
theorem m16_50 : (50 : Nat) % 16 = 2 := rfl
theorem d16_51 : (51 : Nat) / 16 = 3 := rfl
theorem m16_51 : (51 : Nat) % 16 = 3 := rfl
theorem d16_52 : (52 : Nat) / 16 = 3 := rfl
theorem m16_52 : (52 : Nat) % 16 = 4 := rfl
theorem d16_53 : (53 : Nat) / 16 = 3 := rfl
theorem m16_53 : (53 : Nat) % 16 = 5 := rfl
theorem d16_54 : (54 : Nat) / 16 = 3 := rfl
theorem m16_54 : (54 : Nat) % 16 = 6 := rfl
theorem d16_55 : (55 : Nat) / 16 = 3 := rfl
theorem m16_55 : (55 : Nat) % 16 = 7 := rfl
theorem d16_56 : (56 : Nat) / 16 = 3 := rfl
theorem m16_56 : (56 : Nat) % 16 = 8 := rfl
theorem d16_57 : (57 : Nat) / 16 = 3 := rfl
theorem m16_57 : (57 : Nat) % 16 = 9 := rfl
theorem d16_58 : (58 : Nat) / 16 = 3 := rfl
theorem m16_58 : (58 : Nat) % 16 = 10 := rfl
theorem d16_59 : (59 : Nat) / 16 = 3 := rfl
theorem m16_59 : (59 : Nat) % 16 = 11 := rfl
theorem d16_60 : (60 : Nat) / 16 = 3 := rfl
theorem m16_60 : (60 : Nat) % 16 = 12 := rfl
theorem d16_61 : (61 : Nat) / 16 = 3 := rfl
theorem m16_61 : (61 : Nat) % 16 = 13 := rfl
theorem d16_62 : (62 : Nat) / 16 = 3 := rfl
theorem m16_62 : (62 : Nat) % 16 = 14 := rfl
theorem d16_63 : (63 : Nat) / 16 = 3 := rfl
theorem m16_63 : (63 : Nat) % 16 = 15 := rfl
theorem d16_64 : (64 : Nat) / 16 = 4 := rfl
theorem m16_64 : (64 : Nat) % 16 = 0 := rfl
theorem d16_65 : (65 : Nat) / 16 = 4 := rfl
theorem m16_65 : (65 : Nat) % 16 = 1 := rfl
theorem d16_66 : (66 : Nat) / 16 = 4 := rfl
theorem m16_66 : (66 : Nat) % 16 = 2 := rfl
theorem d16_67 : (67 : Nat) / 16 = 4 := rfl
theorem m16_67 : (67 : Nat) % 16 = 3 := rfl
theorem d16_68 : (68 : Nat) / 16 = 4 := rfl
theorem m16_68 : (68 : Nat) % 16 = 4 := rfl
theorem d16_69 : (69 : Nat) / 16 = 4 := rfl
theorem m16_69 : (69 : Nat) % 16 = 5 := rfl
theorem d16_70 : (70 : Nat) / 16 = 4 := rfl
theorem m16_70 : (70 : Nat) % 16 = 6 := rfl
theorem d16_71 : (71 : Nat) / 16 = 4 := rfl
theorem m16_71 : (71 : Nat) % 16 = 7 := rfl
theorem d16_72 : (72 : Nat) / 16 = 4 := rfl
theorem m16_72 : (72 : Nat) % 16 = 8 := rfl
theorem d16_73 : (73 : Nat) / 16 = 4 := rfl
theorem m16_73 : (73 : Nat) % 16 = 9 := rfl
theorem d16_74 : (74 : Nat) / 16 = 4 := rfl
theorem m16_74 : (74 : Nat) % 16 = 10 := rfl
theorem d16_75 : (75 : Nat) / 16 = 4 := rfl
theorem m16_75 : (75 : Nat) % 16 = 11 := rfl
theorem d16_76 : (76 : Nat) / 16 = 4 := rfl
theorem m16_76 : (76 : Nat) % 16 = 12 := rfl
theorem d16_77 : (77 : Nat) / 16 = 4 := rfl
theorem m16_77 : (77 : Nat) % 16 = 13 := rfl
theorem d16_78 : (78 : Nat) / 16 = 4 := rfl
theorem m16_78 : (78 : Nat) % 16 = 14 := rfl
theorem d16_79 : (79 : Nat) / 16 = 4 := rfl
theorem m16_79 : (79 : Nat) % 16 = 15 := rfl
theorem d16_80 : (80 : Nat) / 16 = 5 := rfl
theorem m16_80 : (80 : Nat) % 16 = 0 := rfl
theorem d16_81 : (81 : Nat) / 16 = 5 := rfl
theorem m16_81 : (81 : Nat) % 16 = 1 := rfl
theorem d16_82 : (82 : Nat) / 16 = 5 := rfl
theorem m16_82 : (82 : Nat) % 16 = 2 := rfl
theorem d16_83 : (83 : Nat) / 16 = 5 := rfl
theorem m16_83 : (83 : Nat) % 16 = 3 := rfl
theorem d16_84 : (84 : Nat) / 16 = 5 := rfl
theorem m16_84 : (84 : Nat) % 16 = 4 := rfl
theorem d16_85 : (85 : Nat) / 16 = 5 := rfl
theorem m16_85 : (85 : Nat) % 16 = 5 := rfl
theorem d16_86 : (86 : Nat) / 16 = 5 := rfl
theorem m16_86 : (86 : Nat) % 16 = 6 := rfl
theorem d16_87 : (87 : Nat) / 16 = 5 := rfl
theorem m16_87 : (87 : Nat) % 16 = 7 := rfl
theorem d16_88 : (88 : Nat) / 16 = 5 := rfl
theorem m16_88 : (88 : Nat) % 16 = 8 := rfl
theorem d16_89 : (89 : Nat) / 16 = 5 := rfl
theorem m16_89 : (89 : Nat) % 16 = 9 := rfl
theorem d16_90 : (90 : Nat) / 16 = 5 := rfl
theorem m16_90 : (90 : Nat) % 16 = 10 := rfl
theorem d16_91 : (91 : Nat) / 16 = 5 := rfl
theorem m16_91 : (91 : Nat) % 16 = 11 := rfl
theorem d16_92 : (92 : Nat) / 16 = 5 := rfl
theorem m16_92 : (92 : Nat) % 16 = 12 := rfl
theorem d16_93 : (93 : Nat) / 16 = 5 := rfl
theorem m16_93 : (93 : Nat) % 16 = 13 := rfl
theorem d16_94 : (94 : Nat) / 16 = 5 := rfl
theorem m16_94 : (94 : Nat) % 16 = 14 := rfl
theorem d16_95 : (95 : Nat) / 16 = 5 := rfl
theorem m16_95 : (95 : Nat) % 16 = 15 := rfl
theorem d16_96 : (96 : Nat) / 16 = 6 := rfl
theorem m16_96 : (96 : Nat) % 16 = 0 := rfl
theorem d16_97 : (97 : Nat) / 16 = 6 := rfl
theorem m16_97 : (97 : Nat) % 16 = 1 := rfl
theorem d16_98 : (98 : Nat) / 16 = 6 := rfl
theorem m16_98 : (98 : Nat) % 16 = 2 := rfl
theorem d16_99 : (99 : Nat) / 16 = 6 := rfl
theorem m16_99 : (99 : Nat) % 16 = 3 := rfl
theorem d16_100 : (100 : Nat) / 16 = 6 := rfl
theorem m16_100 : (100 : Nat) % 16 = 4 := rfl
theorem d16_101 : (101 : Nat) / 16 = 6 := rfl
theorem m16_101 : (101 : Nat) % 16 = 5 := rfl
theorem d16_102 : (102 : Nat) / 16 = 6 := rfl
theorem m16_102 : (102 : Nat) % 16 = 6 := rfl
theorem d16_103 : (103 : Nat) / 16 = 6 := rfl
theorem m16_103 : (103 : Nat) % 16 = 7 := rfl
theorem d16_104 : (104 : Nat) / 16 = 6 := rfl
theorem m16_104 : (104 : Nat) % 16 = 8 := rfl
theorem d16_105 : (105 : Nat) / 16 = 6 := rfl
theorem m16_105 : (105 : Nat) % 16 = 9 := rfl
theorem d16_106 : (106 : Nat) / 16 = 6 := rfl
theorem m16_106 : (106 : Nat) % 16 = 10 := rfl
theorem d16_107 : (107 : Nat) / 16 = 6 := rfl
theorem m16_107 : (107 : Nat) % 16 = 11 := rfl
theorem d16_108 : (108 : Nat) / 16 = 6 := rfl
theorem m16_108 : (108 : Nat) % 16 = 12 := rfl
theorem d16_109 : (109 : Nat) / 16 = 6 := rfl
theorem m16_109 : (109 : Nat) % 16 = 13 := rfl
theorem d16_110 : (110 : Nat) / 16 = 6 := rfl
theorem m16_110 : (110 : Nat) % 16 = 14 := rfl
theorem d16_111 : (111 : Nat) / 16 = 6 := rfl
theorem m16_111 : (111 : Nat) % 16 = 15 := rfl
theorem d16_112 : (112 : Nat) / 16 = 7 := rfl
theorem m16_112 : (112 : Nat) % 16 = 0 := rfl
theorem d16_113 : (113 : Nat) / 16 = 7 := rfl
theorem m16_113 : (113 : Nat) % 16 = 1 := rfl
theorem d16_114 : (114 : Nat) / 16 = 7 := rfl
theorem m16_114 : (114 : Nat) % 16 = 2 := rfl
theorem d16_115 : (115 : Nat) / 16 = 7 := rfl
theorem m16_115 : (115 : Nat) % 16 = 3 := rfl
theorem d16_116 : (116 : Nat) / 16 = 7 := rfl
theorem m16_116 : (116 : Nat) % 16 = 4 := rfl
theorem d16_117 : (117 : Nat) / 16 = 7 := rfl
theorem m16_117 : (117 : Nat) % 16 = 5 := rfl
theorem d16_118 : (118 : Nat) / 16 = 7 := rfl
theorem m16_118 : (118 : Nat) % 16 = 6 := rfl
theorem d16_119 : (119 : Nat) / 16 = 7 := rfl
theorem m16_119 : (119 : Nat) % 16 = 7 := rfl
theorem d16_120 : (120 : Nat) / 16 = 7 := rfl
theorem m16_120 : (120 : Nat) % 16 = 8 := rfl
theorem d16_121 : (121 : Nat) / 16 = 7 := rfl
theorem m16_121 : (121 : Nat) % 16 = 9 := rfl
theorem d16_122 : (122 : Nat) / 16 = 7 := rfl
theorem m16_122 : (122 : Nat) % 16 = 10 := rfl
theorem d16_123 : (123 : Nat) / 16 = 7 := rfl
theorem m16_123 : (123 : Nat) % 16 = 11 := rfl
theorem d16_124 : (124 : Nat) / 16 = 7 := rfl
theorem m16_124 : (124 : Nat) % 16 = 12 := rfl
theorem d16_125 : (125 : Nat) / 16 = 7 := rfl
theorem m16_125 : (125 : Nat) % 16 = 13 := rfl
theorem d16_126 : (126 : Nat) / 16 = 7 := rfl
theorem m16_126 : (126 : Nat) % 16 = 14 := rfl
theorem d16_127 : (127 : Nat) / 16 = 7 := rfl
theorem m16_127 : (127 : Nat) % 16 = 15 := rfl
theorem d16_128 : (128 : Nat) / 16 = 8 := rfl
theorem m16_128 : (128 : Nat) % 16 = 0 := rfl
theorem d16_129 : (129 : Nat) / 16 = 8 := rfl
theorem m16_129 : (129 : Nat) % 16 = 1 := rfl
theorem d16_130 : (130 : Nat) / 16 = 8 := rfl
theorem m16_130 : (130 : Nat) % 16 = 2 := rfl
theorem d16_131 : (131 : Nat) / 16 = 8 := rfl
theorem m16_131 : (131 : Nat) % 16 = 3 := rfl
theorem d16_132 : (132 : Nat) / 16 = 8 := rfl
theorem m16_132 : (132 : Nat) % 16 = 4 := rfl
theorem d16_133 : (133 : Nat) / 16 = 8 := rfl
theorem m16_133 : (133 : Nat) % 16 = 5 := rfl
theorem d16_134 : (134 : Nat) / 16 = 8 := rfl
theorem m16_134 : (134 : Nat) % 16 = 6 := rfl
theorem d16_135 : (135 : Nat) / 16 = 8 := rfl
theorem m16_135 : (135 : Nat) % 16 = 7 := rfl
theorem d16_136 : (136 : Nat) / 16 = 8 := rfl
theorem m16_136 : (136 : Nat) % 16 = 8 := rfl
theorem d16_137 : (137 : Nat) / 16 = 8 := rfl
theorem m16_137 : (137 : Nat) % 16 = 9 := rfl
theorem d16_138 : (138 : Nat) / 16 = 8 := rfl
theorem m16_138 : (138 : Nat) % 16 = 10 := rfl
theorem d16_139 : (139 : Nat) / 16 = 8 := rfl
theorem m16_139 : (139 : Nat) % 16 = 11 := rfl
theorem d16_140 : (140 : Nat) / 16 = 8 := rfl
theorem m16_140 : (140 : Nat) % 16 = 12 := rfl
theorem d16_141 : (141 : Nat) / 16 = 8 := rfl
theorem m16_141 : (141 : Nat) % 16 = 13 := rfl
theorem d16_142 : (142 : Nat) / 16 = 8 := rfl
theorem m16_142 : (142 : Nat) % 16 = 14 := rfl
theorem d16_143 : (143 : Nat) / 16 = 8 := rfl
theorem m16_143 : (143 : Nat) % 16 = 15 := rfl
theorem d16_144 : (144 : Nat) / 16 = 9 := rfl
theorem m16_144 : (144 : Nat) % 16 = 0 := rfl
theorem d16_145 : (145 : Nat) / 16 = 9 := rfl
theorem m16_145 : (145 : Nat) % 16 = 1 := rfl
theorem d16_146 : (146 : Nat) / 16 = 9 := rfl
theorem m16_146 : (146 : Nat) % 16 = 2 := rfl
theorem d16_147 : (147 : Nat) / 16 = 9 := rfl
theorem m16_147 : (147 : Nat) % 16 = 3 := rfl
theorem d16_148 : (148 : Nat) / 16 = 9 := rfl
theorem m16_148 : (148 : Nat) % 16 = 4 := rfl
theorem d16_149 : (149 : Nat) / 16 = 9 := rfl
theorem m16_149 : (149 : Nat) % 16 = 5 := rfl
theorem d16_150 : (150 : Nat) / 16 = 9 := rfl
theorem m16_150 : (150 : Nat) % 16 = 6 := rfl
theorem d16_151 : (151 : Nat) / 16 = 9 := rfl
theorem m16_151 : (151 : Nat) % 16 = 7 := rfl
theorem d16_152 : (152 : Nat) / 16 = 9 := rfl
theorem m16_152 : (152 : Nat) % 16 = 8 := rfl
theorem d16_153 : (153 : Nat) / 16 = 9 := rfl
theorem m16_153 : (153 : Nat) % 16 = 9 := rfl
theorem d16_154 : (154 : Nat) / 16 = 9 := rfl
theorem m16_154 : (154 : Nat) % 16 = 10 := rfl
theorem d16_155 : (155 : Nat) / 16 = 9 := rfl
theorem m16_155 : (155 : Nat) % 16 = 11 := rfl
theorem d16_156 : (156 : Nat) / 16 = 9 := rfl
theorem m16_156 : (156 : Nat) % 16 = 12 := rfl
theorem d16_157 : (157 : Nat) / 16 = 9 := rfl
theorem m16_157 : (157 : Nat) % 16 = 13 := rfl
theorem d16_158 : (158 : Nat) / 16 = 9 := rfl
theorem m16_158 : (158 : Nat) % 16 = 14 := rfl
theorem d16_159 : (159 : Nat) / 16 = 9 := rfl
theorem m16_159 : (159 : Nat) % 16 = 15 := rfl
theorem d16_160 : (160 : Nat) / 16 = 10 := rfl
theorem m16_160 : (160 : Nat) % 16 = 0 := rfl
theorem d16_161 : (161 : Nat) / 16 = 10 := rfl
theorem m16_161 : (161 : Nat) % 16 = 1 := rfl
theorem d16_162 : (162 : Nat) / 16 = 10 := rfl
theorem m16_162 : (162 : Nat) % 16 = 2 := rfl
theorem d16_163 : (163 : Nat) / 16 = 10 := rfl
theorem m16_163 : (163 : Nat) % 16 = 3 := rfl
theorem d16_164 : (164 : Nat) / 16 = 10 := rfl
theorem m16_164 : (164 : Nat) % 16 = 4 := rfl
theorem d16_165 : (165 : Nat) / 16 = 10 := rfl
theorem m16_165 : (165 : Nat) % 16 = 5 := rfl
theorem d16_166 : (166 : Nat) / 16 = 10 := rfl
theorem m16_166 : (166 : Nat) % 16 = 6 := rfl
theorem d16_167 : (167 : Nat) / 16 = 10 := rfl
theorem m16_167 : (167 : Nat) % 16 = 7 := rfl
theorem d16_168 : (168 : Nat) / 16 = 10 := rfl
theorem m16_168 : (168 : Nat) % 16 = 8 := rfl
theorem d16_169 : (169 : Nat) / 16 = 10 := rfl
theorem m16_169 : (169 : Nat) % 16 = 9 := rfl
theorem d16_170 : (170 : Nat) / 16 = 10 := rfl
theorem m16_170 : (170 : Nat) % 16 = 10 := rfl
theorem d16_171 : (171 : Nat) / 16 = 10 := rfl
theorem m16_171 : (171 : Nat) % 16 = 11 := rfl
theorem d16_172 : (172 : Nat) / 16 = 10 := rfl
theorem m16_172 : (172 : Nat) % 16 = 12 := rfl
theorem d16_173 : (173 : Nat) / 16 = 10 := rfl
theorem m16_173 : (173 : Nat) % 16 = 13 := rfl
theorem d16_174 : (174 : Nat) / 16 = 10 := rfl
theorem m16_174 : (174 : Nat) % 16 = 14 := rfl
theorem d16_175 : (175 : Nat) / 16 = 10 := rfl
theorem m16_175 : (175 : Nat) % 16 = 15 := rfl
theorem d16_176 : (176 : Nat) / 16 = 11 := rfl
theorem m16_176 : (176 : Nat) % 16 = 0 := rfl
theorem d16_177 : (177 : Nat) / 16 = 11 := rfl
theorem m16_177 : (177 : Nat) % 16 = 1 := rfl
theorem d16_178 : (178 : Nat) / 16 = 11 := rfl
theorem m16_178 : (178 : Nat) % 16 = 2 := rfl
theorem d16_179 : (179 : Nat) / 16 = 11 := rfl
theorem m16_179 : (179 : Nat) % 16 = 3 := rfl
theorem d16_180 : (180 : Nat) / 16 = 11 := rfl
theorem m16_180 : (180 : Nat) % 16 = 4 := rfl
theorem d16_181 : (181 : Nat) / 16 = 11 := rfl
theorem m16_181 : (181 : Nat) % 16 = 5 := rfl
theorem d16_182 : (182 : Nat) / 16 = 11 := rfl
theorem m16_182 : (182 : Nat) % 16 = 6 := rfl
theorem d16_183 : (183 : Nat) / 16 = 11 := rfl
theorem m16_183 : (183 : Nat) % 16 = 7 := rfl
theorem d16_184 : (184 : Nat) / 16 = 11 := rfl
theorem m16_184 : (184 : Nat) % 16 = 8 := rfl
theorem d16_185 : (185 : Nat) / 16 = 11 := rfl
theorem m16_185 : (185 : Nat) % 16 = 9 := rfl
theorem d16_186 : (186 : Nat) / 16 = 11 := rfl
theorem m16_186 : (186 : Nat) % 16 = 10 := rfl
theorem d16_187 : (187 : Nat) / 16 = 11 := rfl
theorem m16_187 : (187 : Nat) % 16 = 11 := rfl
theorem d16_188 : (188 : Nat) / 16 = 11 := rfl
theorem m16_188 : (188 : Nat) % 16 = 12 := rfl
theorem d16_189 : (189 : Nat) / 16 = 11 := rfl
theorem m16_189 : (189 : Nat) % 16 = 13 := rfl
theorem d16_190 : (190 : Nat) / 16 = 11 := rfl
theorem m16_190 : (190 : Nat) % 16 = 14 := rfl
theorem d16_191 : (191 : Nat) / 16 = 11 := rfl
theorem m16_191 : (191 : Nat) % 16 = 15 := rfl
theorem d16_192 : (192 : Nat) / 16 = 12 := rfl
theorem m16_192 : (192 : Nat) % 16 = 0 := rfl
theorem d16_193 : (193 : Nat) / 16 = 12 := rfl
theorem m16_193 : (193 : Nat) % 16 = 1 := rfl
theorem d16_194 : (194 : Nat) / 16 = 12 := rfl
theorem m16_194 : (194 : Nat) % 16 = 2 := rfl
theorem d16_195 : (195 : Nat) / 16 = 12 := rfl
theorem m16_195 : (195 : Nat) % 16 = 3 := rfl
theorem d16_196 : (196 : Nat) / 16 = 12 := rfl
theorem m16_196 : (196 : Nat) % 16 = 4 := rfl
theorem d16_197 : (197 : Nat) / 16 = 12 := rfl
theorem m16_197 : (197 : Nat) % 16 = 5 := rfl
theorem d16_198 : (198 : Nat) / 16 = 12 := rfl
theorem m16_198 : (198 : Nat) % 16 = 6 := rfl
theorem d16_199 : (199 : Nat) / 16 = 12 := rfl
theorem m16_199 : (199 : Nat) % 16 = 7 := rfl
attribute [go_sem] d16_0 m16_0 d16_1 m16_1 d16_2 m16_2 d16_3 m16_3 d16_4 m16_4 d16_5 m16_5 d16_6 m16_6 d16_7 m16_7 d16_8 m16_8 d16_9 m16_9 d16_10 m16_10 d16_11 m16_11 d16_12 m16_12 d16_13 m16_13 d16_14 m16_14 d16_15 m16_15 d16_16 m16_16 d16_17 m16_17 d16_18 m16_18 d16_19 m16_19 d16_20 m16_20 d16_21 m16_21 d16_22 m16_22 d16_23 m16_23 d16_24 m16_24 d16_25 m16_25 d16_26 m16_26 d16_27 m16_27 d16_28 m16_28 d16_29 m16_29 d16_30 m16_30 d16_31 m16_31 d16_32 m16_32 d16_33 m16_33 d16_34 m16_34 d16_35 m16_35 d16_36 m16_36 d16_37 m16_37 d16_38 m16_38 d16_39 m16_39 d16_40 m16_40 d16_41 m16_41 d16_42 m16_42 d16_43 m16_43 d16_44 m16_44 d16_45 m16_45 d16_46 m16_46 d16_47 m16_47 d16_48 m16_48 d16_49 m16_49 d16_50 m16_50 d16_51 m16_51 d16_52 m16_52 d16_53 m16_53 d16_54 m16_54 d16_55 m16_55 d16_56 m16_56 d16_57 m16_57 d16_58 m16_58 d16_59 m16_59
attribute [go_sem] d16_60 m16_60 d16_61 m16_61 d16_62 m16_62 d16_63 m16_63 d16_64 m16_64 d16_65 m16_65 d16_66 m16_66 d16_67 m16_67 d16_68 m16_68 d16_69 m16_69 d16_70 m16_70 d16_71 m16_71 d16_72 m16_72 d16_73 m16_73 d16_74 m16_74 d16_75 m16_75 d16_76 m16_76 d16_77 m16_77 d16_78 m16_78 d16_79 m16_79 d16_80 m16_80 d16_81 m16_81 d16_82 m16_82 d16_83 m16_83 d16_84 m16_84 d16_85 m16_85 d16_86 m16_86 d16_87 m16_87 d16_88 m16_88 d16_89 m16_89 d16_90 m16_90 d16_91 m16_91 d16_92 m16_92 d16_93 m16_93 d16_94 m16_94 d16_95 m16_95 d16_96 m16_96 d16_97 m16_97 d16_98 m16_98 d16_99 m16_99 d16_100 m16_100 d16_101 m16_101 d16_102 m16_102 d16_103 m16_103 d16_104 m16_104 d16_105 m16_105 d16_106 m16_106 d16_107 m16_107 d16_108 m16_108 d16_109 m16_109 d16_110 m16_110 d16_111 m16_111 d16_112 m16_112 d16_113 m16_113 d16_114 m16_114 d16_115 m16_115 d16_116 m16_116 d16_117 m16_117 d16_118 m16_118 d16_119 m16_119
attribute [go_sem] d16_120 m16_120 d16_121 m16_121 d16_122 m16_122 d16_123 m16_123 d16_124 m16_124 d16_125 m16_125 d16_126 m16_126 d16_127 m16_127 d16_128 m16_128 d16_129 m16_129 d16_130 m16_130 d16_131 m16_131 d16_132 m16_132 d16_133 m16_133 d16_134 m16_134 d16_135 m16_135 d16_136 m16_136 d16_137 m16_137 d16_138 m16_138 d16_139 m16_139 d16_140 m16_140 d16_141 m16_141 d16_142 m16_142 d16_143 m16_143 d16_144 m16_144 d16_145 m16_145 d16_146 m16_146 d16_147 m16_147 d16_148 m16_148 d16_149 m16_149 d16_150 m16_150 d16_151 m16_151 d16_152 m16_152 d16_153 m16_153 d16_154 m16_154 d16_155 m16_155 d16_156 m16_156 d16_157 m16_157 d16_158 m16_158 d16_159 m16_159 d16_160 m16_160 d16_161 m16_161 d16_162 m16_162 d16_163 m16_163 d16_164 m16_164 d16_165 m16_165 d16_166 m16_166 d16_167 m16_167 d16_168 m16_168 d16_169 m16_169 d16_170 m16_170 d16_171 m16_171 d16_172 m16_172 d16_173 m16_173 d16_174 m16_174 d16_175 m16_175 d16_176 m16_176 d16_177 m16_177 d16_178 m16_178 d16_179 m16_179
attribute [go_sem] d16_180 m16_180 d16_181 m16_181 d16_182 m16_182 d16_183 m16_183 d16_184 m16_184 d16_185 m16_185 d16_186 m16_186 d16_187 m16_187 d16_188 m16_188 d16_189 m16_189 d16_190 m16_190 d16_191 m16_191 d16_192 m16_192 d16_193 m16_193 d16_194 m16_194 d16_195 m16_195 d16_196 m16_196 d16_197 m16_197 d16_198 m16_198 d16_199 m16_199
end
section
open Go.RowKit

def opTmps (op : Op) : List Tmp := op.operands.toList.filterMap fun | .tmp t => some t | _ => none
def looks (r : Array Oper) (o : Oper) : List Tmp :=
 opTmps o.op ++ (match o.guard with
  | some (g, _) => ((r[g]?).bind (·.dst)).toList
  | none => [])
def clsOp (P : Program) (op : Op) : Nat :=
 match op with
 | .convert s d _ => match tcv P s d with
  | some (.int _) | some .str => 0
  | some (.s2b _) => 2
  | some .b2s => 1
  | none => 4
 | .move _ | .assign _ | .pick .. | .build .. | .nilCheck _ | .binOp .. | .unOp .. | .fieldAddr .. | .index .. | .extract .. => 0
 | .call ⟨.builtin .len, _, _⟩ | .call ⟨.builtin .min, _, _⟩ | .call ⟨.builtin .max, _, _⟩ => 0
 | .load .. | .indexAddr .. | .slice .. => 1
 | .alloc _ | .box .. | .buildSlice .. | .makeSlice .. => 2
 | .call ⟨.value _, _, _⟩ => 3
 | _ => 4
def cls (P : Program) (o : Oper) : Nat := clsOp P o.op
def optNe (a b : Option Tmp) : Bool :=
 match a, b with
 | some x, some y => x != y
 | _, _ => true
def notIn (a : Option Tmp) (l : List Tmp) : Bool :=
 match a with
 | some x => !l.contains x
 | none => true
def indepB (P : Program) (r : Array Oper) (i j : Oper) : Bool :=
 optNe i.dst j.dst && notIn i.dst (looks r j) && notIn j.dst (looks r i) && (cls P i == 0 && cls P j != 5 || cls P i == 1 && cls P j != 4)

theorem Slots.put_comm (s : Slots) (a b : Nat) (v u : Option AV) (h : a ≠ b) : (s.put a v).put b u = (s.put b u).put a v := by
 unfold Slots.put
 by_cases hc : a / 16 = b / 16
 ·rw [hc]
  by_cases hl : b / 16 < s.length
  ·simp only [List.getD_eq_getElem?_getD, List.getElem?_set_self hl, Option.getD_some, List.set_set]
   congr 1
   exact List.set_comm _ _ (by omega)
  ·have h1 : ∀ x, s.set (b / 16) x = s := fun x => List.set_eq_of_length_le (by omega)
   simp only [h1]
 ·have h1 : ∀ x, (s.set (a / 16) x).getD (b / 16) [] = s.getD (b / 16) [] := fun x => by
   simp only [List.getD_eq_getElem?_getD, List.getElem?_set_ne hc]
  have h2 : ∀ x, (s.set (b / 16) x).getD (a / 16) [] = s.getD (a / 16) [] := fun x => by
   simp only [List.getD_eq_getElem?_getD, List.getElem?_set_ne (Ne.symm hc)]
  rw [h1, h2]
  exact List.set_comm _ _ hc
theorem get_put_ne (s : Slots) (d t : Nat) (v : Option AV) (h : d ≠ t) : (s.put d v).get t = s.get t := by
 rw [Slots.get_put, if_neg (Ne.symm h)]

def Alike (l : List Tmp) (s s' : S) : Prop := ∀ t ∈ l, s.sl.get t = s'.sl.get t
theorem alike_put {l : List Tmp} {s : S} {d : Option Tmp} {v : Option AV} {h : Hp} (hd : notIn d l = true) : Alike l s (s.put d v h) := by
 intro t ht
 cases d with
 | none => rfl
 | some d =>
  have hne : d ≠ t := fun e => by
   subst e
   simp only [notIn, Bool.not_eq_true', List.contains_eq_mem, decide_eq_false_iff_not] at hd
   exact hd ht
  exact (get_put_ne s.sl d t v hne).symm
theorem ev_alike {s s' : S} {x : Operand} (h : ∀ t, x = .tmp t → s.sl.get t = s'.sl.get t) : s.ev x = s'.ev x := by
 cases x with
 | tmp t => exact h t rfl
 | _ => rfl
theorem mem_opTmps {op : Op} {t : Tmp} (h : (.tmp t : Operand) ∈ op.operands.toList) : t ∈ opTmps op := by
 unfold opTmps
 rw [List.mem_filterMap]
 exact ⟨.tmp t, h, rfl⟩
theorem parts_alike {s s' : S} : ∀ {l : List (Nat × Operand)}, (∀ p ∈ l, s.ev p.2 = s'.ev p.2) → s.parts l = s'.parts l
 | [], _ => rfl
 | (i, x) :: l, h => by
  have h1 := h (i, x) (by simp)
  dsimp only at h1
  simp only [S.parts, h1, parts_alike (l := l) (fun p hp => h p (by simp [hp]))]
theorem scals_alike {s s' : S} : ∀ {l : List Operand}, (∀ x ∈ l, s.ev x = s'.ev x) → s.scals l = s'.scals l
 | [], _ => rfl
 | x :: l, h => by
  have h1 := h x (by simp)
  simp only [S.scals, h1, scals_alike (l := l) (fun p hp => h p (by simp [hp]))]
theorem evs_alike {s s' : S} : ∀ {l : List Operand}, (∀ x ∈ l, s.ev x = s'.ev x) → s.evs l = s'.evs l
 | [], _ => rfl
 | x :: l, h => by
  have h1 := h x (by simp)
  simp only [S.evs, h1, evs_alike (l := l) (fun p hp => h p (by simp [hp]))]
theorem optInt_alike {s s' : S} {x : Option Operand} (h : ∀ y, x = some y → s.ev y = s'.ev y) : optInt s x = optInt s' x := by
 cases x with
 | none => rfl
 | some y => simp only [optInt, h y rfl]
theorem aop_alike {P : Program} {s s' : S} {ty : TypeId} {op : Op} (hh : s.hp = s'.hp) (h : Alike (opTmps op) s s') : aop P s ty op = aop P s' ty op := by
 have ev : ∀ x, x ∈ op.operands.toList → s.ev x = s'.ev x := fun x hx => ev_alike fun t ht => h t (mem_opTmps (by rw [← ht]; exact hx))
 have ob : ∀ o, s.obj o = s'.obj o := fun o => by unfold S.obj; rw [hh]
 have vl : ∀ v, s.val v = s'.val v := fun v => by unfold S.val; rw [hh]
 have vc : ∀ v c, s.valc v c = s'.valc v c := fun v c => by unfold S.valc; rw [hh]
 have nw : ∀ o v, s.new o v = s'.new o v := fun o v => by unfold S.new; rw [hh]
 have sl : ∀ v a b, aSlice s v a b = aSlice s' v a b := fun v a b => by
  unfold aSlice
  simp only [vl, vc]
 have ap : ∀ t a x, aAppend P s t a x = aAppend P s' t a x := fun t a x => by
  unfold aAppend
  simp only [vl, ob, hh]
 cases op with
 | move x => simp only [aop, ev x (by simp [Op.operands]), vl]
 | assign x => simp only [aop, ev x (by simp [Op.operands]), vl]
 | pick c x y => simp only [aop, ev c (by simp [Op.operands]), ev x (by simp [Op.operands]), ev y (by simp [Op.operands]), vl]
 | alloc e => simp only [aop, nw, hh]
 | box e x => simp only [aop, ev x (by simp [Op.operands]), nw, hh]
 | build t ps =>
  have := parts_alike (s := s) (s' := s') (l := ps.toList) (fun p hp => ev p.2 (by simp only [Op.operands, List.mem_map]; exact ⟨p, hp, rfl⟩))
  simp only [aop, this, vl]
 | buildSlice t n ps =>
  have := parts_alike (s := s) (s' := s') (l := ps.toList) (fun p hp => ev p.2 (by simp only [Op.operands, List.mem_map]; exact ⟨p, hp, rfl⟩))
  simp only [aop, this, nw, hh]
 | load t x => simp only [aop, ev x (by simp [Op.operands]), ob, vl]
 | store t x y => simp only [aop, ev x (by simp [Op.operands]), ev y (by simp [Op.operands]), ob, hh]
 | nilCheck x => simp only [aop, ev x (by simp [Op.operands]), vl]
 | binOp o t x y u => simp only [aop, ev x (by simp [Op.operands]), ev y (by simp [Op.operands]), vc]
 | unOp o t x => simp only [aop, ev x (by simp [Op.operands]), vl]
 | convert a b x => simp only [aop, ev x (by simp [Op.operands]), vl, vc, ob, hh]
 | makeSlice t x y => simp only [aop, ev x (by simp [Op.operands]), ev y (by simp [Op.operands]), hh]
 | slice t x lo hi mx =>
  cases mx with
  | none =>
   have h1 := optInt_alike (s := s) (s' := s') (x := lo) (fun y hy => ev y (by subst hy; simp [Op.operands]))
   have h2 := optInt_alike (s := s) (s' := s') (x := hi) (fun y hy => ev y (by subst hy; simp [Op.operands]))
   simp only [aop, ev x (by simp [Op.operands]), h1, h2, ob, sl]
  | some m => rfl
 | fieldAddr t x f => simp only [aop, ev x (by simp [Op.operands]), vl]
 | field t x f => simp only [aop, ev x (by simp [Op.operands]), vl]
 | indexAddr t x i => simp only [aop, ev x (by simp [Op.operands]), ev i (by simp [Op.operands]), ob, vc]
 | index t x i => simp only [aop, ev x (by simp [Op.operands]), ev i (by simp [Op.operands]), vc]
 | extract x i => simp only [aop, ev x (by simp [Op.operands]), vl]
 | makeFunc f first caps =>
  cases f with
  | func f =>
   have := scals_alike (s := s) (s' := s') (l := caps.toList) (fun x hx => ev x (by simp [Op.operands]; right; simpa using hx))
   simp only [aop, this, vl]
  | _ => rfl
 | call c =>
  obtain ⟨callee, args, at_⟩ := c
  cases callee with
  | builtin b =>
   have hx : ∀ x, x ∈ args.toList → s.ev x = s'.ev x := fun x hx => ev x (by simp [Op.operands, Call.operands]; simpa using hx)
   cases b with
   | len =>
    simp only [aop]
    split
    ·rename_i x t ha ht
     simp only [hx x (by simp [ha]), vl]
    ·rfl
   | append =>
    simp only [aop]
    split
    ·rename_i x y t t' ha ht
     simp only [hx x (by simp [ha]), hx y (by simp [ha]), ap]
    ·rfl
   | min =>
    simp only [aop]
    split
    ·rename_i x y ha
     simp only [hx x (by simp [ha]), hx y (by simp [ha]), vl]
    ·rfl
   | max =>
    simp only [aop]
    split
    ·rename_i x y ha
     simp only [hx x (by simp [ha]), hx y (by simp [ha]), vl]
    ·rfl
   | _ => rfl
  | _ => rfl
 | _ => rfl
def Hp.ext (s h : Hp) : Prop := ∀ (o : Nat) (ob : AObj), s[o]? = some (some ob) → h[o]? = some (some ob)
theorem obj_ext {s : S} {h : Hp} (hx : Hp.ext s.hp h) {o : Nat} {ob : AObj} (ho : s.obj o = some ob) : S.obj ⟨s.sl, h⟩ o = some ob := by
 have := hx o ob (obj_get ho)
 unfold S.obj
 rw [List.getD_eq_getElem?_getD, this]
 rfl
theorem ev_hp (s : S) (h : Hp) (x : Operand) : S.ev ⟨s.sl, h⟩ x = s.ev x := by cases x <;> rfl
theorem parts_hp (s : S) (h : Hp) : ∀ l, S.parts ⟨s.sl, h⟩ l = s.parts l := fun l => parts_alike fun p _ => ev_hp s h p.2
theorem optInt_hp (s : S) (h : Hp) (x : Option Operand) : optInt ⟨s.sl, h⟩ x = optInt s x := optInt_alike fun y _ => ev_hp s h y
theorem aop_pure {P : Program} {s : S} {ty : TypeId} {op : Op} {x : OpR} (hc : clsOp P op = 0) (h : aop P s ty op = some x) : x.hp = s.hp ∧ ∀ h', aop P ⟨s.sl, h'⟩ ty op = some ⟨x.v, h', x.c⟩ := by
 have e := ev_hp s
 have ep := parts_hp s
 cases op with
 | move y | assign y =>
  simp only [aop, e] at h
  split at h
  ·rename_i v hv
   simp only [Option.some.injEq] at h
   subst h
   exact ⟨rfl, fun h' => by simp only [aop, e, ep, hv]; rfl⟩
  ·cases h
 | pick c y z =>
  simp only [aop, e] at h
  split at h
  ·rename_i hv
   split at h
   ·rename_i v hv2
    simp only [Option.some.injEq] at h
    subst h
    exact ⟨rfl, fun h' => by simp only [aop, e, ep, hv, hv2]; rfl⟩
   ·cases h
  ·rename_i hv
   split at h
   ·rename_i v hv2
    simp only [Option.some.injEq] at h
    subst h
    exact ⟨rfl, fun h' => by simp only [aop, e, ep, hv, hv2]; rfl⟩
   ·cases h
  ·cases h
 | build t ps =>
  simp only [aop, ep] at h
  split at h
  ·rename_i z hz
   split at h
   ·rename_i l hl
    split at h
    ·rename_i cs hcs
     simp only [Option.some.injEq] at h
     subst h
     exact ⟨rfl, fun h' => by simp only [aop, e, ep, hz, hl, hcs]; rfl⟩
    ·cases h
   ·cases h
  ·cases h
 | nilCheck y =>
  simp only [aop, e] at h
  split at h
  ·rename_i hv
   simp only [Option.some.injEq] at h
   subst h
   exact ⟨rfl, fun h' => by simp only [aop, e, ep, hv]; rfl⟩
  ·rename_i hv
   simp only [Option.some.injEq] at h
   subst h
   exact ⟨rfl, fun h' => by simp only [aop, e, ep, hv]; rfl⟩
  ·cases h
 | binOp o t y z u =>
  simp only [aop, e] at h
  split at h
  ·rename_i hy hz
   split at h
   ·rename_i q d hb
    simp only [Option.some.injEq] at h
    subst h
    exact ⟨rfl, fun h' => by simp only [aop, e, ep, hy, hz, hb]; rfl⟩
   ·cases h
  ·rename_i hy hz
   split at h
   ·simp only [Option.some.injEq] at h
    subst h
    exact ⟨rfl, fun h' => by simp only [aop, e, ep, hy, hz]; rfl⟩
   ·simp only [Option.some.injEq] at h
    subst h
    exact ⟨rfl, fun h' => by simp only [aop, e, ep, hy, hz]; rfl⟩
   ·cases h
  ·cases h
 | unOp o t y =>
  simp only [aop, e] at h
  split at h
  ·rename_i hy
   split at h
   ·simp only [Option.some.injEq] at h
    subst h
    exact ⟨rfl, fun h' => by simp only [aop, e, ep, hy]; rfl⟩
   ·cases h
  ·rename_i hy
   split at h
   ·simp only [Option.some.injEq] at h
    subst h
    exact ⟨rfl, fun h' => by simp only [aop, e, ep, hy]; rfl⟩
   ·cases h
  ·cases h
 | convert a b y =>
  simp only [aop, e] at h
  split at h
  ·rename_i ht hy
   simp only [Option.some.injEq] at h
   subst h
   exact ⟨rfl, fun h' => by simp only [aop, e, ht, hy]; rfl⟩
  ·rename_i ht hy
   simp only [Option.some.injEq] at h
   subst h
   exact ⟨rfl, fun h' => by simp only [aop, e, ht, hy]; rfl⟩
  ·rename_i ht hy
   simp only [clsOp, ht] at hc
   cases hc
  ·rename_i ht hy
   simp only [clsOp, ht] at hc
   cases hc
  ·rename_i ht hy
   simp only [clsOp, ht] at hc
   cases hc
  ·cases h
 | fieldAddr t y f =>
  simp only [aop, e] at h
  split at h
  ·rename_i hy hf
   simp only [Option.some.injEq] at h
   subst h
   exact ⟨rfl, fun h' => by simp only [aop, e, ep, hy, hf]; rfl⟩
  ·cases h
 | index t y i =>
  simp only [aop, e] at h
  split at h
  ·rename_i hy hi
   split at h
   ·rename_i ht
    simp only [Option.some.injEq] at h
    subst h
    exact ⟨rfl, fun h' => by simp only [aop, e, ep, hy, hi, ht]; rfl⟩
   ·cases h
  ·cases h
 | extract y i =>
  simp only [aop, e] at h
  split at h
  ·rename_i hy
   split at h
   ·rename_i hl
    simp only [Option.some.injEq] at h
    subst h
    exact ⟨rfl, fun h' => by simp only [aop, e, ep, hy, hl]; rfl⟩
   ·cases h
  ·cases h
 | call c =>
  obtain ⟨callee, args, at_⟩ := c
  cases callee with
  | builtin b =>
   cases b with
   | len =>
    simp only [aop, e] at h
    split at h
    ·rename_i y t ha ht
     split at h
     ·rename_i hy
      split at h
      ·rename_i hs
       simp only [Option.some.injEq] at h
       subst h
       exact ⟨rfl, fun h' => by simp only [aop, e, ep, ha, ht, hy, hs]; rfl⟩
      ·cases h
     ·rename_i hy
      split at h
      ·rename_i hs
       simp only [Option.some.injEq] at h
       subst h
       exact ⟨rfl, fun h' => by simp only [aop, e, ep, ha, ht, hy, hs]; rfl⟩
      ·cases h
     ·rename_i hy
      split at h
      ·rename_i hs
       simp only [Option.some.injEq] at h
       subst h
       exact ⟨rfl, fun h' => by simp only [aop, e, ep, ha, ht, hy, hs]; rfl⟩
      ·cases h
     ·cases h
    ·cases h
   | min =>
    simp only [aop, e] at h
    split at h
    ·rename_i y z ha
     split at h
     ·rename_i hy hz
      simp only [Option.some.injEq] at h
      subst h
      exact ⟨rfl, fun h' => by simp only [aop, e, ep, ha, hy, hz]; rfl⟩
     ·cases h
    ·cases h
   | max =>
    simp only [aop, e] at h
    split at h
    ·rename_i y z ha
     split at h
     ·rename_i hy hz
      simp only [Option.some.injEq] at h
      subst h
      exact ⟨rfl, fun h' => by simp only [aop, e, ep, ha, hy, hz]; rfl⟩
     ·cases h
    ·cases h
   | _ => cases hc
  | _ => cases hc
 | _ => cases hc
theorem aop_read {P : Program} {s : S} {ty : TypeId} {op : Op} {x : OpR} (hc : clsOp P op = 1) (h : aop P s ty op = some x) : x.hp = s.hp ∧ ∀ h', Hp.ext s.hp h' → aop P ⟨s.sl, h'⟩ ty op = some ⟨x.v, h', x.c⟩ := by
 have e := ev_hp s
 cases op with
 | load t y =>
  simp only [aop, e] at h
  split at h
  ·rename_i o k j hy
   split at h
   ·rename_i ob hob
    split at h
    ·rename_i c hk
     split at h
     ·rename_i n ht
      split at h
      ·rename_i hf
       simp only [Option.some.injEq] at h
       subst h
       exact ⟨rfl, fun h' hx => by simp only [aop, e, optInt_hp s, hy, obj_ext hx hob, hk, ht, hf]; rfl⟩
      ·cases h
     ·rename_i ht
      split at h
      ·rename_i z hz
       simp only [Option.some.injEq] at h
       subst h
       exact ⟨rfl, fun h' hx => by simp only [aop, e, optInt_hp s, hy, obj_ext hx hob, hk, ht, hz]; rfl⟩
      ·cases h
     ·cases h
    ·cases h
   ·cases h
  ·cases h
 | convert a b y =>
  simp only [aop, e] at h
  split at h
  ·rename_i ht hy
   simp only [clsOp, ht] at hc
   cases hc
  ·rename_i ht hy
   simp only [clsOp, ht] at hc
   cases hc
  ·rename_i ht hy
   simp only [clsOp, ht] at hc
   cases hc
  ·rename_i ht hy
   split at h
   ·rename_i ob hob
    split at h
    ·rename_i hz
     simp only [Option.some.injEq] at h
     subst h
     exact ⟨rfl, fun h' hx => by simp only [aop, e, ht, hy, obj_ext hx hob, hz, if_true]; rfl⟩
    ·cases h
   ·cases h
  ·rename_i ht hy
   simp only [Option.some.injEq] at h
   subst h
   exact ⟨rfl, fun h' hx => by simp only [aop, e, ht, hy]; rfl⟩
  ·cases h
 | indexAddr t y i =>
  simp only [aop, e] at h
  split at h
  ·rename_i hy hi ht
   split at h
   ·rename_i ob hob
    split at h
    ·rename_i hz
     simp only [Option.some.injEq] at h
     subst h
     exact ⟨rfl, fun h' hx => by simp only [aop, e, optInt_hp s, hy, hi, ht, obj_ext hx hob, hz, if_true]; rfl⟩
    ·cases h
   ·cases h
  ·cases h
 | slice t y lo hi mx =>
  cases mx with
  | some m => cases h
  | none =>
   have eo := optInt_hp s
   simp only [aop, e, eo] at h
   have sl : ∀ {v : AV} {a b : Option Int} {q : OpR}, aSlice s v a b = some q → q.hp = s.hp ∧ ∀ h', aSlice ⟨s.sl, h'⟩ v a b = some ⟨q.v, h', q.c⟩ := by
    intro v a b q hq
    unfold aSlice at hq
    split at hq <;> first
     | (simp only [Option.some.injEq] at hq; subst hq; exact ⟨rfl, fun h' => rfl⟩)
     | cases hq
   split at h
   ·rename_i v a b hy ha hb
    split at h
    ·rename_i l
     split at h
     ·rename_i ht
      obtain ⟨h1, h2⟩ := sl h
      exact ⟨h1, fun h' hx => by simp only [aop, e, optInt_hp s, hy, ha, hb, ht]; exact h2 h'⟩
     ·cases h
    ·rename_i o off len
     split at h
     ·rename_i q sz ob ht hob
      split at h
      ·rename_i hz
       obtain ⟨h1, h2⟩ := sl h
       exact ⟨h1, fun h' hx => by simp only [aop, e, optInt_hp s, hy, ha, hb, ht, obj_ext hx hob, hz, if_true]; exact h2 h'⟩
      ·cases h
     ·cases h
    ·cases h
   ·cases h
 | call c =>
  obtain ⟨callee, args, at_⟩ := c
  cases callee with
  | builtin b => cases b <;> cases hc
  | _ => cases hc
 | _ => cases hc

theorem ext_refl (h : Hp) : Hp.ext h h := fun _ _ h => h
theorem ext_append (h k : Hp) : Hp.ext h (h ++ k) := fun o ob ho => by
 rw [List.getElem?_append_left (List.getElem?_eq_some_iff.1 ho).1]; exact ho
theorem aop_ext {P : Program} {s : S} {ty : TypeId} {op : Op} {x : OpR} (h : aop P s ty op = some x) (hc : clsOp P op ≠ 4) : Hp.ext s.hp x.hp := by
 by_cases h0 : clsOp P op = 0
 ·rw [(aop_pure h0 h).1]; exact ext_refl _
 ·by_cases h1 : clsOp P op = 1
  ·rw [(aop_read h1 h).1]; exact ext_refl _
  ·cases op with
   | alloc e =>
    simp only [aop] at h
    split at h
    ·simp only [Option.some.injEq] at h; subst h; exact ext_append _ _
    ·cases h
   | box e y =>
    simp only [aop] at h
    split at h
    ·split at h
     ·simp only [Option.some.injEq] at h; subst h; exact ext_append _ _
     ·cases h
    ·cases h
   | buildSlice t n ps =>
    simp only [aop] at h
    split at h
    ·split at h
     ·split at h
      ·split at h
       ·split at h
        ·simp only [Option.some.injEq] at h; subst h; exact ext_append _ _
        ·cases h
       ·cases h
      ·cases h
     ·cases h
    ·cases h
   | makeSlice t y z =>
    simp only [aop] at h
    split at h
    ·split at h
     ·split at h
      ·simp only [Option.some.injEq] at h; subst h; exact ext_append _ _
      ·cases h
     ·cases h
    ·cases h
   | convert a b y =>
    simp only [aop] at h
    split at h
    ·rename_i ht hy
     simp only [clsOp, ht] at h0
     exact absurd trivial h0
    ·rename_i ht hy
     simp only [clsOp, ht] at h0
     exact absurd trivial h0
    ·simp only [Option.some.injEq] at h; subst h; exact ext_append _ _
    ·rename_i ht hy
     simp only [clsOp, ht] at h1
     exact absurd trivial h1
    ·rename_i ht hy
     simp only [clsOp, ht] at h1
     exact absurd trivial h1
    ·cases h
   | call c =>
    obtain ⟨callee, args, at_⟩ := c
    cases callee with
    | value f => simp only [aop] at h; cases h
    | builtin b => cases b <;> first | exact absurd rfl h0 | exact absurd rfl hc
    | invoke a b => exact absurd rfl hc
   | move _ => exact absurd rfl h0
   | assign _ => exact absurd rfl h0
   | pick _ _ _ => exact absurd rfl h0
   | build _ _ => exact absurd rfl h0
   | nilCheck _ => exact absurd rfl h0
   | binOp _ _ _ _ _ => exact absurd rfl h0
   | unOp _ _ _ => exact absurd rfl h0
   | fieldAddr _ _ _ => exact absurd rfl h0
   | index _ _ _ => exact absurd rfl h0
   | extract _ _ => exact absurd rfl h0
   | load _ _ => exact absurd rfl h1
   | indexAddr _ _ _ => exact absurd rfl h1
   | slice _ _ _ _ _ => exact absurd rfl h1
   | _ => exact absurd rfl hc

def ActN (P : Program) (o : Oper) (s s' : S) : Prop :=
 (∃ x, aop P s o.type o.op = some x ∧ x.c ∧ s' = s.put o.dst x.v x.hp) ∨
 (∃ (y : Operand) (args : Array Operand) (at_ : Array TypeId) (f : Nat) (caps : List Sc) (avs : List AV) (res : AV) (h' : Hp), o.op = .call ⟨.value y, args, at_⟩ ∧ s.ev y = some (.cl f caps) ∧ s.evs args.toList = some avs ∧
  CallA P f (avs ++ scAll caps) s.hp res h' ∧ Hp.ext s.hp h' ∧ s' = s.put o.dst (some res) h')
def StepN (P : Program) (r : Array Oper) (i : Nat) (s s' : S) : Prop :=
 match r[i]? with
 | none => s' = s
 | some o => match guardOf r s o with
  | some true => ActN P o s s'
  | some false => s' = s.put o.dst (some (.tu [])) s.hp
  | none => False
def RunN (P : Program) (r : Array Oper) : List Nat → S → S → Prop
 | [], s, s' => s' = s
 | i :: l, s, s'' => ∃ s', StepN P r i s s' ∧ RunN P r l s' s''
theorem guard_alike {r : Array Oper} {s s' : S} {o : Oper} (h : Alike (looks r o) s s') : guardOf r s o = guardOf r s' o := by
 unfold guardOf
 split
 ·rfl
 ·rename_i j want hg
  split
  ·rename_i oj hj
   split
   ·rename_i d hd
    have := h d (by unfold looks; rw [hg]; simp [hj, hd])
    rw [this]
   ·rfl
  ·rfl
theorem alike_ops {r : Array Oper} {s s' : S} {o : Oper} (h : Alike (looks r o) s s') : Alike (opTmps o.op) s s' := fun t ht => h t (by unfold looks; exact List.mem_append_left _ ht)
theorem put_put (s : S) {a b : Option Tmp} (v u : Option AV) (h h' : Hp) (hne : optNe a b = true) : (s.put a v h).put b u h' = (s.put b u h').put a v h' := by
 cases a with
 | none => cases b <;> rfl
 | some a => cases b with
  | none => rfl
  | some b =>
   have : a ≠ b := by simpa [optNe] using hne
   simp only [S.put, Slots.put_comm s.sl a b v u this]
theorem put_hp (s : S) (d : Option Tmp) (v : Option AV) (h : Hp) : (s.put d v h).hp = h := by cases d <;> rfl
theorem swap {P : Program} {r : Array Oper} {i j : Nat} {oi oj : Oper} (hi : r[i]? = some oi) (hj : r[j]? = some oj) (hind : indepB P r oi oj = true) {s s1 s2 : S} (h1 : StepN P r i s s1) (h2 : StepN P r j s1 s2) :
  ∃ s1', StepN P r j s s1' ∧ StepN P r i s1' s2 := by
 simp only [indepB, Bool.and_eq_true, Bool.or_eq_true, beq_iff_eq, bne_iff_ne] at hind
 obtain ⟨⟨⟨hne, hij⟩, hji⟩, hcls⟩ := hind
 have hci : cls P oi = 0 ∨ cls P oi = 1 := by rcases hcls with h | h; exact .inl h.1; exact .inr h.1
 unfold StepN at h1 h2
 rw [hi] at h1
 rw [hj] at h2
 dsimp only at h1 h2
 -- what step i does: it puts a value, and leaves the heap
 have key : ∃ v, s1 = s.put oi.dst v s.hp ∧ ∀ (t : S), Alike (looks r oi) s t → (cls P oi = 0 ∨ Hp.ext s.hp t.hp) → StepN P r i t (t.put oi.dst v t.hp) := by
  split at h1
  ·rename_i hg
   rcases h1 with ⟨x, hx, hc, rfl⟩ | ⟨y, args, at_, f, caps, avs, res, h', ho, _⟩
   ·have hx2 : x.hp = s.hp ∧ ∀ t : S, Alike (looks r oi) s t → (cls P oi = 0 ∨ Hp.ext s.hp t.hp) → aop P t oi.type oi.op = some ⟨x.v, t.hp, x.c⟩ := by
     have eqv : ∀ t : S, Alike (looks r oi) s t → aop P t oi.type oi.op = aop P ⟨s.sl, t.hp⟩ oi.type oi.op := fun t ha => (aop_alike (s := ⟨s.sl, t.hp⟩) (s' := t) rfl (fun q hq => alike_ops ha q hq)).symm
     rcases hci with h0 | h0
     ·obtain ⟨e1, e2⟩ := aop_pure h0 hx
      exact ⟨e1, fun t ha _ => by rw [eqv t ha]; exact e2 t.hp⟩
     ·obtain ⟨e1, e2⟩ := aop_read h0 hx
      exact ⟨e1, fun t ha he => by rw [eqv t ha]; exact e2 t.hp (he.resolve_left (by rw [h0]; simp))⟩
    refine ⟨x.v, by rw [hx2.1], fun t ha he => ?_⟩
    unfold StepN
    rw [hi]
    dsimp only
    rw [← guard_alike ha, hg]
    exact .inl ⟨_, hx2.2 t ha he, hc, rfl⟩
   ·exfalso
    have : cls P oi = 3 := by unfold cls; rw [ho]; rfl
    omega
  ·rename_i hg
   refine ⟨some (.tu []), h1, fun t ha _ => ?_⟩
   unfold StepN
   rw [hi]
   dsimp only
   rw [← guard_alike ha, hg]
  ·exact h1.elim
 obtain ⟨v, rfl, hstep⟩ := key
 have hal : Alike (looks r oj) s (s.put oi.dst v s.hp) := alike_put hij
 have hhp : (s.put oi.dst v s.hp).hp = s.hp := put_hp _ _ _ _
 rw [← guard_alike hal] at h2
 -- what step j does
 have fin : ∀ (u : Option AV) (h' : Hp), s2 = (s.put oi.dst v s.hp).put oj.dst u h' → (cls P oi = 0 ∨ Hp.ext s.hp h') → StepN P r j s (s.put oj.dst u h') → ∃ s1', StepN P r j s s1' ∧ StepN P r i s1' s2 := by
  intro u h' he hx hj'
  refine ⟨s.put oj.dst u h', hj', ?_⟩
  have h3 := hstep (s.put oj.dst u h') (alike_put hji) (by rw [put_hp]; exact hx)
  rw [put_hp] at h3
  rw [he, put_put s v u s.hp h' hne]
  exact h3
 split at h2
 ·rename_i hg
  rcases h2 with ⟨x, hx, hc, rfl⟩ | ⟨y, args, at_, f, caps, avs, res, h', ho, hy, ha, hcall, hext, rfl⟩
  ·have hx' : aop P s oj.type oj.op = some x := by rw [aop_alike (s := s) (s' := s.put oi.dst v s.hp) hhp.symm (alike_ops hal)]; exact hx
   refine fin x.v x.hp rfl ?_ ?_
   ·rcases hcls with h0 | h0
    ·exact .inl h0.1
    ·right
     have h4 : cls P oj ≠ 4 := h0.2
     exact aop_ext hx' h4
   ·unfold StepN
    rw [hj]
    dsimp only
    rw [hg]
    exact .inl ⟨x, hx', hc, rfl⟩
  ·have hal' := alike_ops hal
   rw [ho] at hal'
   have e1 : s.ev y = some (.cl f caps) := by
    rw [ev_alike (s := s) (s' := s.put oi.dst v s.hp) (x := y) (fun t ht => hal' t (mem_opTmps (by subst ht; simp [Op.operands, Call.operands])))]
    exact hy
   have e2 : s.evs args.toList = some avs := by
    rw [evs_alike (s := s) (s' := s.put oi.dst v s.hp) (l := args.toList) (fun z hz => ev_alike fun t ht => hal' t (mem_opTmps (by subst ht; simp [Op.operands, Call.operands]; right; simpa using hz)))]
    exact ha
   rw [hhp] at hcall hext
   refine fin (some res) h' rfl (.inr hext) ?_
   unfold StepN
   rw [hj]
   dsimp only
   rw [hg]
   exact .inr ⟨y, args, at_, f, caps, avs, res, h', ho, e1, e2, hcall, hext, rfl⟩
 ·rename_i hg
  refine fin (some (.tu [])) s.hp (by rw [h2, hhp]) (.inr fun o ob h => h) ?_
  unfold StepN
  rw [hj]
  dsimp only
  rw [hg]
 ·exact h2.elim
def indepC (P : Program) (r : Array Oper) (i j : Oper) : Bool :=
 optNe i.dst j.dst && notIn i.dst (looks r j) && notIn j.dst (looks r i) && cls P j == 0
theorem swapC {P : Program} {r : Array Oper} {i j : Nat} {oi oj : Oper} (hi : r[i]? = some oi) (hj : r[j]? = some oj) (hind : indepC P r oi oj = true) {s s1 s2 : S} (h1 : StepN P r i s s1) (h2 : StepN P r j s1 s2) :
  ∃ s1', StepN P r j s s1' ∧ StepN P r i s1' s2 := by
 simp only [indepC, Bool.and_eq_true, beq_iff_eq] at hind
 obtain ⟨⟨⟨hne, hij⟩, hji⟩, hcj⟩ := hind
 unfold StepN at h1 h2
 rw [hi] at h1
 rw [hj] at h2
 dsimp only at h1 h2
 -- what step i does: it puts a value and a heap
 have key : ∃ v hp, s1 = s.put oi.dst v hp ∧ ∀ (t : S), Alike (looks r oi) s t → t.hp = s.hp → StepN P r i t (t.put oi.dst v hp) := by
  split at h1
  ·rename_i hg
   rcases h1 with ⟨x, hx, hc, rfl⟩ | ⟨y, args, at_, f, caps, avs, res, h', ho, hy, ha, hcall, hext, rfl⟩
   ·refine ⟨x.v, x.hp, rfl, fun t ha he => ?_⟩
    unfold StepN
    rw [hi]
    dsimp only
    rw [← guard_alike ha, hg]
    exact .inl ⟨x, by rw [← aop_alike he.symm (alike_ops ha)]; exact hx, hc, rfl⟩
   ·refine ⟨some res, h', rfl, fun t hal he => ?_⟩
    unfold StepN
    rw [hi]
    dsimp only
    rw [← guard_alike hal, hg]
    have hal' := alike_ops hal
    rw [ho] at hal'
    have e1 : t.ev y = some (.cl f caps) := by
     rw [← ev_alike (s := s) (s' := t) (x := y) (fun q hq => hal' q (mem_opTmps (by subst hq; simp [Op.operands, Call.operands])))]
     exact hy
    have e2 : t.evs args.toList = some avs := by
     rw [← evs_alike (s := s) (s' := t) (l := args.toList) (fun z hz => ev_alike fun q hq => hal' q (mem_opTmps (by subst hq; simp [Op.operands, Call.operands]; right; simpa using hz)))]
     exact ha
    exact .inr ⟨y, args, at_, f, caps, avs, res, h', ho, e1, e2, by rw [he]; exact hcall, by rw [he]; exact hext, rfl⟩
  ·rename_i hg
   refine ⟨some (.tu []), s.hp, h1, fun t ha he => ?_⟩
   unfold StepN
   rw [hi]
   dsimp only
   rw [← guard_alike ha, hg]
   dsimp only
   rw [he]
  ·exact h1.elim
 obtain ⟨v, hp, rfl, hstep⟩ := key
 have hal : Alike (looks r oj) s (s.put oi.dst v hp) := alike_put hij
 rw [← guard_alike hal] at h2
 have fin : ∀ (u : Option AV), s2 = (s.put oi.dst v hp).put oj.dst u hp → StepN P r j s (s.put oj.dst u s.hp) → ∃ s1', StepN P r j s s1' ∧ StepN P r i s1' s2 := by
  intro u he hj'
  refine ⟨s.put oj.dst u s.hp, hj', ?_⟩
  have h3 := hstep (s.put oj.dst u s.hp) (alike_put hji) (put_hp _ _ _ _)
  rw [he, put_put s v u hp hp hne]
  have e : ∀ (a b : S) (d : Option Tmp) (x : Option AV) (h : Hp), a.sl = b.sl → a.put d x h = b.put d x h := by
   intro a b d x h hab
   cases d <;> simp [S.put, hab]
  rw [e (s.put oj.dst u hp) (s.put oj.dst u s.hp) oi.dst v hp (by cases oj.dst <;> rfl)]
  exact h3
 split at h2
 ·rename_i hg
  rcases h2 with ⟨x, hx, hc, rfl⟩ | ⟨y, args, at_, f, caps, avs, res, h', ho, _⟩
  ·have hx1 : aop P ⟨s.sl, hp⟩ oj.type oj.op = some x := by
    rw [aop_alike (s := ⟨s.sl, hp⟩) (s' := s.put oi.dst v hp) (by rw [put_hp]) (fun q hq => alike_ops hal q hq)]
    exact hx
   obtain ⟨e1, e2⟩ := aop_pure hcj hx1
   have e3 := e2 s.hp
   refine fin x.v (by rw [e1]) ?_
   unfold StepN
   rw [hj]
   dsimp only
   rw [hg]
   exact .inl ⟨_, e3, hc, rfl⟩
  ·exfalso
   have : cls P oj = 3 := by unfold cls; rw [ho]; rfl
   omega
 ·rename_i hg
  refine fin (some (.tu [])) (by rw [h2, put_hp]) ?_
  unfold StepN
  rw [hj]
  dsimp only
  rw [hg]
 ·exact h2.elim
end
section
open Go.RowKit

theorem stepN_wp {P : Program} {E : Entry} {r : Array Oper} {i : Nat} {s s1 : S} {β : Be} {a : Act} {w : World} {Q : Exit → Act → World → Prop} {K : Act → World → Prop} (h : StepN P r i s s1) (hs : Sim E β s a w) (hK : ∀ β' a' w', Sim E β' s1 a' w' → K a' w') : wpOp P r Q i K a w := by
 unfold wpOp
 unfold StepN at h
 split at h
 ·rename_i hi
  subst h
  rw [hi]
  exact hK β a w hs
 ·rename_i o ho
  rw [ho]
  dsimp only
  split at h
  ·rename_i hg
   rw [if_pos (guard_R hs.sl hg)]
   refine .inl ?_
   unfold Oper.wp
   rcases h with ⟨x, hx, hc, rfl⟩ | ⟨y, args, at_, f, caps, avs, res, h', hop, hy, ha, ⟨⟨fn, hfn, hname, hbody⟩, hcall⟩, _, rfl⟩
   ·obtain ⟨β', w', hst, hh, hx'⟩ := aop_sound hs.hp hs.sl hx hc
    rcases hx' with ⟨v, av, hrun, hv, hr⟩ | ⟨hrun, hv⟩
    ·rw [hrun]
     rw [hv] at hK
     exact hK β' _ w' (sim_put hs hst hh o.dst hr)
    ·rw [hrun]
     rw [hv] at hK
     exact hK β' _ w' (sim_putNone hs hst hh o.dst undef)
   ·obtain ⟨cvs, hxe, hcl⟩ : AVR β (.cl f caps) (a.eval y) := ev_R hs.sl hy
    have hav := evs_R hs.sl ha
    have hvs : L2 (AVR β) (avs ++ scAll caps) (args.toList.map a.eval ++ cvs) := hav.append (scAll_R hcl)
    have hrun : (execOp a.eval o).run P w = .ok (.enter f (args.toList.map a.eval ++ cvs).toArray) w := by
     unfold execOp
     rw [hop]
     have e1 : args.map a.eval = (args.toList.map a.eval).toArray := by apply Array.ext'; simp
     have hname' : ¬ fn.name = "runtime.NumGoroutine" := by simpa using hname
     simp only [resolve, hxe, Deferred.ofValue, invoke, callFunc, Sem.run_bind, run_program, Sem.run_pure, Result.andThen_ok, hfn, e1]
     simp [hname', hbody]
    rw [hrun, Oper.upon_enter]
    refine (hcall β w _ hs.hp hvs).mono fun e w' ⟨β', v, he, hr, hh, hst⟩ => ?_
    subst he
    exact hK β' _ w' (sim_put hs hst hh o.dst hr)
  ·rename_i hg
   rw [guard_R hs.sl hg]
   subst h
   exact hK β _ w (sim_put hs (StepR.refl β s.hp w hs.hp.len) hs.hp o.dst ⟨[], rfl, trivial⟩)
  ·exact h.elim

def clo1 (T : List Nat) (o : Oper) : Nat := o.after.toList.foldl (fun m e => if Region.binds .any e then m ||| (1 <<< e.on) ||| T.getD e.on 0 else m) 0
def cloT : List Oper → List Nat → List Nat
 | [], T => T
 | o :: l, T => cloT l (T ++ [clo1 T o])
def clo (r : Array Oper) : List Nat := cloT r.toList []
def backB (r : Array Oper) : Bool := (List.range r.size).all fun i => match r[i]? with
 | some o => o.after.toList.all fun e => !Region.binds .any e || decide (e.on < i)
 | none => true
theorem fold_bit (T : List Nat) (p : Nat) : ∀ (l : List Edge) (m : Nat), (l.foldl (fun m e => if Region.binds .any e then m ||| (1 <<< e.on) ||| T.getD e.on 0 else m) m).testBit p = true ↔
  m.testBit p = true ∨ ∃ e ∈ l, Region.binds .any e = true ∧ (e.on = p ∨ (T.getD e.on 0).testBit p = true)
 | [], m => by simp
 | e :: l, m => by
  rw [List.foldl_cons, fold_bit T p l]
  cases hb : Region.binds .any e
  ·simp [hb]
  ·simp only [if_true, Nat.testBit_or, Bool.or_eq_true, Nat.one_shiftLeft, Nat.testBit_two_pow, decide_eq_true_eq, List.mem_cons, exists_eq_or_imp, hb, true_and]
   constructor
   ·rintro (((h | h) | h) | h)
    ·exact .inl h
    ·exact .inr (.inl (.inl h))
    ·exact .inr (.inl (.inr h))
    ·exact .inr (.inr h)
   ·rintro (h | (h | h) | h)
    ·exact .inl (.inl (.inl h))
    ·exact .inl (.inl (.inr h))
    ·exact .inl (.inr h)
    ·exact .inr h
theorem cloT_old : ∀ (l : List Oper) (T : List Nat) (i : Nat), i < T.length → (cloT l T)[i]? = T[i]?
 | [], T, i, _ => rfl
 | o :: l, T, i, h => by
  rw [cloT, cloT_old l _ i (by simp; omega), List.getElem?_append_left h]
theorem cloT_new : ∀ (l : List Oper) (T : List Nat) (j : Nat) (o : Oper), l[j]? = some o → ∃ T', (cloT l T)[T.length + j]? = some (clo1 T' o) ∧ T'.length = T.length + j ∧ ∀ k, k < T.length + j → T'[k]? = (cloT l T)[k]?
 | [], T, j, o, h => by simp at h
 | o' :: l, T, 0, o, h => by
  simp at h
  subst h
  refine ⟨T, ?_, by simp, fun k hk => ?_⟩
  ·rw [cloT, cloT_old l _ _ (by simp)]
   simp
  ·rw [cloT, cloT_old l _ _ (by simp; omega), List.getElem?_append_left (by omega)]
 | o' :: l, T, j + 1, o, h => by
  obtain ⟨T', h1, h2, h3⟩ := cloT_new l (T ++ [clo1 T o']) j o (by simpa using h)
  simp only [List.length_append, List.length_cons, List.length_nil] at h1 h2 h3
  refine ⟨T', ?_, by omega, fun k hk => ?_⟩
  ·rw [cloT, show T.length + (j + 1) = T.length + (0 + 1) + j from by omega]; exact h1
  ·rw [cloT]; exact h3 k (by omega)
theorem clo_spec {r : Array Oper} {i : Nat} {o : Oper} (ho : r[i]? = some o) (p : Nat) : ((clo r).getD i 0).testBit p = true ↔ ∃ e ∈ o.after.toList, Region.binds .any e = true ∧ (e.on = p ∨ (e.on < i ∧ ((clo r).getD e.on 0).testBit p = true)) := by
 obtain ⟨T', h1, h2, h3⟩ := cloT_new r.toList [] i o (by simpa using ho)
 simp only [List.length_nil, Nat.zero_add] at h1 h2 h3
 have e1 : (clo r).getD i 0 = clo1 T' o := by unfold clo; rw [List.getD_eq_getElem?_getD, h1]; rfl
 rw [e1]
 unfold clo1
 rw [fold_bit]
 simp only [Nat.zero_testBit, Bool.false_eq_true, false_or]
 constructor
 ·rintro ⟨e, he, hb, h⟩
  refine ⟨e, he, hb, h.imp id fun h => ?_⟩
  rcases Nat.lt_or_ge e.on i with hlt | hge
  ·refine ⟨hlt, ?_⟩
   rw [List.getD_eq_getElem?_getD, h3 _ hlt] at h
   rw [List.getD_eq_getElem?_getD]
   exact h
  ·rw [List.getD_eq_getElem?_getD, List.getElem?_eq_none (by omega)] at h
   simp at h
 ·rintro ⟨e, he, hb, h⟩
  refine ⟨e, he, hb, h.imp id fun ⟨hlt, h⟩ => ?_⟩
  rw [List.getD_eq_getElem?_getD, h3 _ hlt]
  rw [List.getD_eq_getElem?_getD] at h
  exact h
def Closed (r : Array Oper) (listed : Array Bool) : Prop := ∀ (i : Nat) (o : Oper), r[i]? = some o → listed.getD i false = true → ∀ e ∈ o.after.toList, Region.binds .any e = true → listed.getD e.on false = true
theorem clo_listed {r : Array Oper} {listed : Array Bool} (hc : Closed r listed) : ∀ (i : Nat) (o : Oper), r[i]? = some o → (∀ e ∈ o.after.toList, Region.binds .any e = true → listed.getD e.on false = true) → ∀ p, ((clo r).getD i 0).testBit p = true → listed.getD p false = true := by
 intro i
 induction i using Nat.strongRecOn with
 | _ i ih =>
  intro o ho ha p hp
  obtain ⟨e, he, hb, h⟩ := (clo_spec ho p).1 hp
  rcases h with rfl | ⟨hlt, h⟩
  ·exact ha e he hb
  ·have hl := ha e he hb
   cases hr : r[e.on]? with
   | none =>
    exfalso
    have hn : (clo r)[e.on]? = none := by
     rw [Array.getElem?_eq_none_iff] at hr
     have hlt2 := (Array.getElem?_eq_some_iff.1 ho).1
     omega
    rw [List.getD_eq_getElem?_getD, hn] at h
    simp at h
   | some oj => exact ih e.on hlt oj hr (hc e.on oj hr hl) p h

def before : List Nat → Nat → Nat → Bool
 | [], p, q => decide (p < q)
 | i :: l, p, q => if i = p then true else if i = q then false else before l p q
theorem before_total {p q : Nat} (hne : p ≠ q) : ∀ {l : List Nat}, before l p q = true ∨ before l q p = true
 | [] => by simp only [before, decide_eq_true_eq]; omega
 | i :: l => by
  simp only [before]
  by_cases h1 : i = p
  ·exact .inl (by rw [if_pos h1])
  ·by_cases h2 : i = q
   ·exact .inr (by rw [if_pos h2])
   ·rw [if_neg h1, if_neg h2, if_neg h2, if_neg h1]
    exact before_total hne
def okP (P : Program) (r : Array Oper) (T : List Nat) (ex : List (Nat × Nat)) (p q : Nat) : Bool :=
 p != q && !(T.getD p 0).testBit q &&
 ((T.getD q 0).testBit p || ex.contains (p, q) || match r[p]?, r[q]? with
  | some x, some y => indepB P r x y || indepC P r x y
  | _, _ => false)
def okL (P : Program) (r : Array Oper) (T : List Nat) (ex : List (Nat × Nat)) : List Nat → Bool
 | [] => true
 | p :: l => l.all (okP P r T ex p) && okL P r T ex l
theorem okL_drop {P : Program} {r : Array Oper} {T : List Nat} {ex : List (Nat × Nat)} {i : Nat} : ∀ {l m : List Nat}, okL P r T ex (l ++ i :: m) = true → okL P r T ex (l ++ m) = true
 | [], m, h => by simp only [List.nil_append, okL, Bool.and_eq_true] at h ⊢; exact h.2
 | p :: l, m, h => by
  simp only [List.cons_append, okL, Bool.and_eq_true, List.all_eq_true] at h ⊢
  refine ⟨fun q hq => h.1 q ?_, okL_drop h.2⟩
  simp only [List.mem_append, List.mem_cons] at hq ⊢
  exact hq.imp id .inr
theorem okL_at {P : Program} {r : Array Oper} {T : List Nat} {ex : List (Nat × Nat)} {i p : Nat} : ∀ {l m : List Nat}, okL P r T ex (l ++ i :: m) = true → p ∈ l → okP P r T ex p i = true
 | [], m, _, h => by simp at h
 | q :: l, m, h, hp => by
  simp only [List.cons_append, okL, Bool.and_eq_true, List.all_eq_true] at h
  rcases List.mem_cons.1 hp with rfl | hp
  ·exact h.1 i (by simp)
  ·exact okL_at h.2 hp
theorem okL_head {P : Program} {r : Array Oper} {T : List Nat} {ex : List (Nat × Nat)} {i p : Nat} {l : List Nat} (h : okL P r T ex (i :: l) = true) (hp : p ∈ l) : okP P r T ex i p = true := by
 simp only [okL, Bool.and_eq_true, List.all_eq_true] at h
 exact h.1 p hp
theorem okL_nodup {P : Program} {r : Array Oper} {T : List Nat} {ex : List (Nat × Nat)} : ∀ {l : List Nat}, okL P r T ex l = true → l.Nodup
 | [], _ => List.nodup_nil
 | p :: l, h => by
  refine List.nodup_cons.2 ⟨fun hp => ?_, okL_nodup (by simp only [okL, Bool.and_eq_true] at h; exact h.2)⟩
  have := okL_head h hp
  simp [okP] at this
theorem run_front {P : Program} {r : Array Oper} {i : Nat} : ∀ {l m : List Nat} {s s' : S}, (∀ p ∈ l, ∃ x y, r[p]? = some x ∧ r[i]? = some y ∧ (indepB P r x y || indepC P r x y) = true) → RunN P r (l ++ i :: m) s s' → RunN P r (i :: (l ++ m)) s s'
 | [], m, s, s', _, h => h
 | p :: l, m, s, s', hl, h => by
  obtain ⟨s1, h1, h2⟩ := h
  obtain ⟨s2, h3, h4⟩ := run_front (fun q hq => hl q (List.mem_cons_of_mem _ hq)) h2
  obtain ⟨x, y, hx, hy, hind⟩ := hl p (by simp)
  rcases (Bool.or_eq_true _ _).mp hind with hind | hind
  ·obtain ⟨s1', h5, h6⟩ := swap hx hy hind h1 h3
   exact ⟨s1', h5, s2, h6, h4⟩
  ·obtain ⟨s1', h5, h6⟩ := swapC hx hy hind h1 h3
   exact ⟨s1', h5, s2, h6, h4⟩
def Drawn (r : Array Oper) : Nat → Array Bool → List Nat → Prop
 | fuel, listed, [] => fuel = 0 ∨ Region.ready .any r listed = []
 | 0, _, _ :: _ => False
 | fuel + 1, listed, i :: τ => i ∈ Region.ready .any r listed ∧ Drawn r fuel (listed.setIfInBounds i true) τ
theorem drawn_go {r : Array Oper} : ∀ (fuel t : Nat) (listed : Array Bool), Drawn r fuel listed (Region.linearise.go .any r fuel t listed [])
 | 0, t, listed => by simp [Region.linearise.go, Drawn]
 | fuel + 1, t, listed => by
  simp only [Region.linearise.go]
  change Drawn r (fuel + 1) listed (match (Region.ready .any r listed)[t % (Region.ready .any r listed).length]? with
   | some i => Region.linearise.go .any r fuel (t / (Region.ready .any r listed).length) (listed.setIfInBounds i true) [i]
   | none => [].reverse)
  cases hi : (Region.ready .any r listed)[t % (Region.ready .any r listed).length]? with
  | none =>
   have hnil : Region.ready .any r listed = [] := by
    cases hr : Region.ready .any r listed with
    | nil => rfl
    | cons x xs =>
     rw [hr] at hi
     have hlt : t % (x :: xs).length < (x :: xs).length := Nat.mod_lt _ (by simp)
     simp at hi
     simp at hlt
     omega
   exact .inr hnil
  | some i =>
   simp only []
   rw [linearise_go_acc, List.reverse_singleton, List.singleton_append]
   exact ⟨List.mem_of_getElem? hi, drawn_go fuel _ _⟩
theorem ready_iff {r : Array Oper} {listed : Array Bool} {i : Nat} : i ∈ Region.ready .any r listed ↔ ∃ o, r[i]? = some o ∧ listed.getD i true = false ∧ ∀ e ∈ o.after.toList, Region.binds .any e = true → listed.getD e.on false = true := by
 unfold Region.ready
 simp only [List.mem_filter, List.mem_range, Bool.and_eq_true, Bool.not_eq_true']
 constructor
 ·rintro ⟨hlt, h1, h2⟩
  refine ⟨r[i], Array.getElem?_eq_getElem hlt, h1, fun e he hb => ?_⟩
  rw [Array.getElem?_eq_getElem hlt] at h2
  simp only [Option.map_some, Option.getD_some, Array.all_eq_true_iff_forall_mem, Bool.or_eq_true, Bool.not_eq_true'] at h2
  rcases h2 e (by simpa using he) with h | h
  ·rw [hb] at h; cases h
  ·exact h
 ·rintro ⟨o, ho, h1, h2⟩
  refine ⟨(Array.getElem?_eq_some_iff.1 ho).1, h1, ?_⟩
  rw [ho]
  simp only [Option.map_some, Option.getD_some, Array.all_eq_true_iff_forall_mem, Bool.or_eq_true, Bool.not_eq_true']
  intro e he
  cases hb : Region.binds .any e with
  | false => exact .inl rfl
  | true => exact .inr (h2 e (by simpa using he) hb)
theorem set_getD {l : Array Bool} {i j : Nat} {d : Bool} (hi : i < l.size) : (l.setIfInBounds i true).getD j d = if i = j then true else l.getD j d := by
 simp only [Array.getD_eq_getD_getElem?, Array.getElem?_setIfInBounds]
 by_cases h : i = j
 ·subst h; simp [hi]
 ·simp [h]
theorem back_lt {r : Array Oper} (h : backB r = true) {i : Nat} {o : Oper} (ho : r[i]? = some o) {e : Edge} (he : e ∈ o.after.toList) (hb : Region.binds .any e = true) : e.on < i := by
 unfold backB at h
 rw [List.all_eq_true] at h
 have := h i (List.mem_range.2 (Array.getElem?_eq_some_iff.1 ho).1)
 rw [ho] at this
 have := (List.all_eq_true.1 this) e he
 rw [hb] at this
 simpa using this
theorem drawn_nil {r : Array Oper} {fuel : Nat} {listed : Array Bool} (h : Drawn r fuel listed []) : fuel = 0 ∨ Region.ready .any r listed = [] := by
 cases fuel <;> exact h
theorem ops_of_run {P : Program} {E : Entry} {r : Array Oper} {Q : Exit → Act → World → Prop} {ex : List (Nat × Nat)} {s' : S} (hback : backB r = true) (hQ : ∀ β' a' w', Sim E β' s' a' w' → Q .normal a' w') :
  ∀ (τ : List Nat) (fuel : Nat) (listed : Array Bool) (σ : List Nat) (s : S) (β : Be) (a : Act) (w : World), Drawn r fuel listed τ → listed.size = r.size → σ.length ≤ fuel → (∀ i, i ∈ σ ↔ i < r.size ∧ listed.getD i true = false) → Closed r listed →
   okL P r (clo r) ex σ = true → (∀ p q, ex.contains (p, q) = true → p ∈ σ → q ∈ σ → before τ p q = true) → RunN P r σ s s' → Sim E β s a w → wpOps P r Q τ a w
 | [], fuel, listed, σ, s, β, a, w, hd, hsz, hf, hm, hc, hok, hx, hrun, hs => by
  have hnil : σ = [] := by
   rcases drawn_nil hd with rfl | hd
   ·exact List.length_eq_zero_iff.1 (by omega)
   ·cases σ with
    | nil => rfl
    | cons p l =>
     exfalso
     have hp := (hm p).1 (by simp)
     have : p ∈ Region.ready .any r listed := by
      refine ready_iff.2 ⟨r[p], Array.getElem?_eq_getElem hp.1, hp.2, fun e he hb => ?_⟩
      have hbit : ((clo r).getD p 0).testBit e.on = true := (clo_spec (Array.getElem?_eq_getElem hp.1) e.on).2 ⟨e, he, hb, .inl rfl⟩
      have hlt0 := back_lt hback (Array.getElem?_eq_getElem hp.1) he hb
      have hlt : e.on < r.size := Nat.lt_trans hlt0 hp.1
      cases hl : listed.getD e.on false with
      | true => rfl
      | false =>
       exfalso
       have hl' : listed.getD e.on true = false := by
        rw [Array.getD_eq_getD_getElem?, Array.getElem?_eq_getElem (by omega)] at hl ⊢
        exact hl
       have hmem : e.on ∈ p :: l := (hm e.on).2 ⟨hlt, hl'⟩
       rcases List.mem_cons.1 hmem with hep | hmem
       ·omega
       ·have := okL_head hok hmem
        simp only [okP, Bool.and_eq_true, Bool.not_eq_true'] at this
        rw [this.1.2] at hbit
        cases hbit
     rw [hd] at this
     simp at this
  subst hnil
  have : s' = s := hrun
  subst this
  exact hQ β a w hs
 | i :: τ, 0, listed, σ, s, β, a, w, hd, _, _, _, _, _, _, _, _ => hd.elim
 | i :: τ, fuel + 1, listed, σ, s, β, a, w, hd, hsz, hf, hm, hc, hok, hx, hrun, hs => by
  obtain ⟨hi, hd⟩ := hd
  obtain ⟨o, ho, h1, h2⟩ := ready_iff.1 hi
  have hil : i < r.size := (Array.getElem?_eq_some_iff.1 ho).1
  have hiσ : i ∈ σ := (hm i).2 ⟨hil, h1⟩
  obtain ⟨l, m, rfl⟩ := List.append_of_mem hiσ
  have hnd := okL_nodup hok
  have hfront : ∀ p ∈ l, ∃ x y, r[p]? = some x ∧ r[i]? = some y ∧ (indepB P r x y || indepC P r x y) = true := by
   intro p hp
   have hpl := (hm p).1 (by simp [hp])
   have h3 := okL_at hok hp
   have hpi : p ≠ i := by
    intro e
    subst e
    simp [okP] at h3
   simp only [okP, Bool.and_eq_true, Bool.or_eq_true] at h3
   rcases h3.2 with (h4 | h4) | h4
   ·exfalso
    have := clo_listed hc i o ho h2 p h4
    have h5 := hpl.2
    rw [Array.getD_eq_getD_getElem?, Array.getElem?_eq_getElem (by omega)] at this h5
    simp only [Option.getD_some] at this h5
    rw [this] at h5
    cases h5
   ·exfalso
    have := hx p i h4 (by simp [hp]) (by simp)
    simp [before, hpi, Ne.symm hpi] at this
   ·split at h4
    ·rename_i x y hx hy
     exact ⟨x, y, hx, hy, h4⟩
    ·cases h4
  obtain ⟨s1, h3, h4⟩ := run_front hfront hrun
  have hset : ∀ (j : Nat) (d : Bool), (listed.setIfInBounds i true).getD j d = if i = j then true else listed.getD j d := fun j d => set_getD (by omega)
  rw [wpOps_cons]
  refine stepN_wp h3 hs fun β' a' w' hs' => ?_
  refine ops_of_run hback hQ τ fuel (listed.setIfInBounds i true) (l ++ m) s1 β' a' w' hd (by simpa using hsz) ?_ ?_ ?_ (okL_drop hok) ?_ h4 hs'
  ·simp only [List.length_append, List.length_cons] at hf ⊢
   omega
  ·intro j
   have hj := hm j
   rw [hset]
   have hd1 : i ∉ l ∧ i ∉ m := by
    rw [List.nodup_append] at hnd
    exact ⟨fun h => hnd.2.2 i h i (by simp) rfl, (List.nodup_cons.1 hnd.2.1).1⟩
   simp only [List.mem_append, List.mem_cons] at hj ⊢
   by_cases hij : i = j
   ·subst hij
    simp [hd1.1, hd1.2]
   ·rw [if_neg hij, ← hj]
    simp [Ne.symm hij]
  ·intro j oj hj hl e he hb
   rw [hset] at hl ⊢
   by_cases hij : i = j
   ·subst hij
    rw [hj] at ho
    cases ho
    split
    ·rfl
    ·exact h2 e he hb
   ·rw [if_neg hij] at hl
    split
    ·rfl
    ·exact hc j oj hj hl e he hb
  ·intro p q hpq hp hq
   have hd1 : i ∉ l ∧ i ∉ m := by
    rw [List.nodup_append] at hnd
    exact ⟨fun h => hnd.2.2 i h i (by simp) rfl, (List.nodup_cons.1 hnd.2.1).1⟩
   have hne : ∀ x ∈ l ++ m, i ≠ x := by
    intro x hx e
    subst e
    exact (List.mem_append.1 hx).elim hd1.1 hd1.2
   have hin : ∀ x ∈ l ++ m, x ∈ l ++ i :: m := by
    intro x hx
    simp only [List.mem_append, List.mem_cons] at hx ⊢
    exact hx.imp id .inr
   have := hx p q hpq (hin p hp) (hin q hq)
   simpa [before, hne p hp, hne q hq] using this
def choices : List (Nat × Nat) → List (List (Nat × Nat))
 | [] => [[]]
 | (a, b) :: U => (choices U).flatMap fun l => [(a, b) :: l, (b, a) :: l]
theorem choice_of (τ : List Nat) : ∀ {U : List (Nat × Nat)}, (∀ u ∈ U, u.1 ≠ u.2) → ∃ ex ∈ choices U, ∀ p q, ex.contains (p, q) = true → before τ p q = true
 | [], _ => ⟨[], by simp [choices], fun p q h => by simp at h⟩
 | (a, b) :: U, h => by
  obtain ⟨ex, h1, h2⟩ := choice_of τ (U := U) fun u hu => h u (by simp [hu])
  have hne : a ≠ b := h (a, b) (by simp)
  rcases before_total hne (l := τ) with h3 | h3
  ·refine ⟨(a, b) :: ex, List.mem_flatMap.2 ⟨ex, h1, by simp⟩, fun p q hpq => ?_⟩
   simp only [List.contains_cons, Bool.or_eq_true, beq_iff_eq, Prod.mk.injEq] at hpq
   rcases hpq with ⟨rfl, rfl⟩ | hpq
   ·exact h3
   ·exact h2 p q hpq
  ·refine ⟨(b, a) :: ex, List.mem_flatMap.2 ⟨ex, h1, by simp⟩, fun p q hpq => ?_⟩
   simp only [List.contains_cons, Bool.or_eq_true, beq_iff_eq, Prod.mk.injEq] at hpq
   rcases hpq with ⟨rfl, rfl⟩ | hpq
   ·exact h3
   ·exact h2 p q hpq
def coverB (P : Program) (r : Array Oper) (U : List (Nat × Nat)) (os : List (List Nat)) : Bool :=
 backB r && U.all (fun u => u.1 != u.2) && os.all (fun σ => σ.length == r.size && (List.range r.size).all σ.contains && σ.all fun i => decide (i < r.size)) &&
 (let T := clo r; (choices U).all fun ex => os.any fun σ => okL P r T ex σ)
theorem wp_drawn {P : Program} {E : Entry} {id : Nat} {r : Array Oper} {U : List (Nat × Nat)} {os : List (List Nat)} (hP : P.follows .mixedOrders = true) (hcov : coverB P r U os = true) {s : S} {K : S → Prop}
  (h : ∀ σ ∈ os, ∃ s', RunN P r σ s s' ∧ ∀ β a w, Sim E β s' a w → ∃ β' t, K t ∧ Sim E β' t a w) : Den P E (.region id r true) s fun e s' => e = .normal ∧ K s' := by
 intro β a w hs Q hQ
 refine wp_region_draw fun t => ?_
 simp only [Region.schedule, hP, Bool.true_or, if_true]
 simp only [coverB, Bool.and_eq_true] at hcov
 obtain ⟨⟨⟨hback, hU⟩, hperm⟩, hch⟩ := hcov
 have hd := drawn_go (r := r) r.size t (Array.replicate r.size false)
 obtain ⟨ex, hex, hbef⟩ := choice_of (Region.linearise .any r t) (U := U) fun u hu => by
  have := List.all_eq_true.1 hU u hu
  simpa using this
 obtain ⟨σ, hσ, hok⟩ := List.any_eq_true.1 (List.all_eq_true.1 hch ex hex)
 have hp := List.all_eq_true.1 hperm σ hσ
 simp only [Bool.and_eq_true, beq_iff_eq, List.all_eq_true, List.mem_range, decide_eq_true_eq] at hp
 obtain ⟨⟨hlen, hall⟩, hlt⟩ := hp
 obtain ⟨s', hrun, hK⟩ := h σ hσ
 have hs2 : Sim E β s a { w with drawn := w.drawn + 1 } := ⟨hs.dfr, hs.sl, ⟨hs.hp.len, hs.hp.ob, hs.hp.flat, hs.hp.apart⟩, hs.ent, ⟨hs.st.le, hs.st.os, hs.st.tape, hs.st.output, hs.st.size, hs.st.block, hs.st.len, hs.st.old, hs.st.fresh⟩⟩
 refine ops_of_run hback (fun β' a' w' hs' => let ⟨β2, t2, hk2, hs2⟩ := hK β' a' w' hs'; hQ .normal t2 β2 a' w' ⟨rfl, hk2⟩ hs2) (Region.linearise .any r t) r.size _ σ s β a _ hd (by simp) (by omega) (fun i => ?_) (fun i o ho hl => ?_) hok (fun p q hpq _ _ => hbef p q hpq) hrun hs2
 ·constructor
  ·intro hi
   refine ⟨hlt i hi, ?_⟩
   simp [Array.getD_eq_getD_getElem?, hlt i hi]
  ·rintro ⟨hi, _⟩
   simpa using hall i hi
 ·exfalso
  simp only [Array.getD_eq_getD_getElem?, Array.getElem?_replicate] at hl
  split at hl <;> cases hl

inductive StD where
 | go (l : List Nat) (s : S) (c : Prop)
 | call (f : Nat) (args : List AV) (d : Option Tmp) (l : List Nat) (s : S) (c : Prop)
 | fin (s : S) (c : Prop)
 | bad
def stepOpD (P : Program) (o : Oper) (l : List Nat) (s : S) (c : Prop) : StD :=
 match o.op with
 | .call ⟨.value x, args, _⟩ => match s.ev x, s.evs args.toList with
  | some (.cl f caps), some avs => .call f (avs ++ scAll caps) o.dst l s c
  | _, _ => .bad
 | op => match aop P s o.type op with
  | some ⟨v, h, d⟩ => .go l (s.put o.dst v h) (c ∧ d)
  | none => .bad
def stepD (P : Program) (r : Array Oper) : List Nat → S → Prop → StD
 | [], s, c => .fin s c
 | i :: l, s, c => match r[i]? with
  | some o => match guardOf r s o with
   | some b => match b with
    | true => stepOpD P o l s c
    | false => .go l (s.put o.dst (some (.tu [])) s.hp) c
   | none => .bad
  | none => .bad
def runD (P : Program) (r : Array Oper) : Nat → StD → StD
 | 0, x => x
 | n + 1, .go l s c => runD P r n (stepD P r l s c)
 | _ + 1, .call f a d l s c => .call f a d l s c
 | _ + 1, .fin s c => .fin s c
 | _ + 1, .bad => .bad
def denD (P : Program) (r : Array Oper) (G : S → Prop) : StD → Prop
 | .go l s c => c ∧ ∃ s', RunN P r l s s' ∧ G s'
 | .call f args d l s c => c ∧ ∃ res h', CallA P f args s.hp res h' ∧ Hp.ext s.hp h' ∧ ∃ s', RunN P r l (s.put d (some res) h') s' ∧ G s'
 | .fin s c => c ∧ G s
 | .bad => False
theorem stepD_den {P : Program} {r : Array Oper} {G : S → Prop} {l : List Nat} {s : S} {c : Prop} (h : denD P r G (stepD P r l s c)) : denD P r G (.go l s c) := by
 cases l with
 | nil => exact ⟨h.1, s, rfl, h.2⟩
 | cons i l =>
  simp only [stepD] at h
  split at h
  ·rename_i o ho
   split at h
   ·rename_i b hg
    cases b with
    | true =>
     unfold stepOpD at h
     dsimp only at h
     split at h
     ·rename_i x args at_ hop
      split at h
      ·rename_i f caps avs hx ha
       obtain ⟨hc, res, h', hcall, hext, s', hrun, hG⟩ := h
       refine ⟨hc, s', ⟨_, ?_, hrun⟩, hG⟩
       unfold StepN
       rw [ho]
       dsimp only
       rw [hg]
       exact .inr ⟨x, args, at_, f, caps, avs, res, h', hop, hx, ha, hcall, hext, rfl⟩
      ·exact h.elim
     ·split at h
      ·rename_i v hp d hx
       obtain ⟨⟨hc, hd⟩, s', hrun, hG⟩ := h
       refine ⟨hc, s', ⟨_, ?_, hrun⟩, hG⟩
       unfold StepN
       rw [ho]
       dsimp only
       rw [hg]
       exact .inl ⟨_, hx, hd, rfl⟩
      ·exact h.elim
    | false =>
     obtain ⟨hc, s', hrun, hG⟩ := h
     refine ⟨hc, s', ⟨_, ?_, hrun⟩, hG⟩
     unfold StepN
     rw [ho]
     dsimp only
     rw [hg]
   ·exact h.elim
  ·exact h.elim
theorem runD_den {P : Program} {r : Array Oper} {G : S → Prop} : ∀ (n : Nat) {x : StD}, denD P r G (runD P r n x) → denD P r G x
 | 0, x, h => h
 | n + 1, .go l s c, h => stepD_den (runD_den n h)
 | n + 1, .call .., h => h
 | n + 1, .fin .., h => h
 | n + 1, .bad, h => h
def noOwn : Hp → Bool
 | [] => true
 | some ob :: h => !ob.own && noOwn h
 | none :: h => noOwn h
theorem noOwn_get : ∀ {h : Hp} {i : Nat} {t : AObj}, noOwn h = true → h[i]? = some (some t) → t.own = false
 | [], i, t, _, h => by simp at h
 | some ob :: l, 0, t, hn, h => by
  simp at h
  subst h
  simp [noOwn] at hn
  exact hn.1
 | none :: l, 0, t, hn, h => by simp at h
 | some ob :: l, i + 1, t, hn, h => noOwn_get (h := l) (by simp [noOwn] at hn; exact hn.2) (by simpa using h)
 | none :: l, i + 1, t, hn, h => noOwn_get (h := l) (by simpa [noOwn] using hn) (by simpa using h)
theorem den_callD {P : Program} {r : Array Oper} {G : S → Prop} {f : Nat} {avs : List AV} {d : Option Tmp} {l : List Nat} {s : S} {c : Prop} {args0 : List AV} {h0 h0' : Hp} {res0 : AV} (hc : c) (ct : CallA P f args0 h0 res0 h0') (ρ : Rho)
  (hm : avsM ρ args0 avs ∧ hpM ρ s.hp ρ h0) (hsep : sepB ρ h0 = true) (hno : noOwn h0 = true) (h : denD P r G (.go l (s.put d (some (renAV ρ s.hp.length res0)) (s.hp ++ renHp ρ s.hp.length (h0'.drop h0.length))) True)) : denD P r G (.call f avs d l s c) := by
 have hu : ∀ (ρ' : Rho) (h h' s' : Hp), (∀ (i : Nat) (t : AObj), h[i]? = some (some t) → t.own = false) → updH ρ s.hp.length ρ' h h' s' = s' := by
  intro ρ'
  induction ρ' with
  | nil => intro h h' s' _; simp [updH]
  | cons x ρ' ih =>
   intro h h' s' hn
   cases h with
   | nil => cases x <;> simp [updH]
   | cons y h =>
    have hn' : ∀ (i : Nat) (t : AObj), h[i]? = some (some t) → t.own = false := fun i t ht => hn (i + 1) t (by simpa using ht)
    cases h' with
    | nil => cases x <;> cases y <;> simp [updH]
    | cons z h' =>
     cases x with
     | none => cases y <;> simpa [updH] using ih h h' s' hn'
     | some x =>
      cases y with
      | none => simpa [updH] using ih h h' s' hn'
      | some y =>
       obtain ⟨n, e⟩ := x
       have ho := hn 0 y (by simp)
       simpa [updH, ho] using ih h h' s' hn'
 have hcall : hpCall ρ h0 h0' s.hp = s.hp ++ renHp ρ s.hp.length (h0'.drop h0.length) := by
  unfold hpCall
  rw [hu ρ h0 h0' s.hp fun i t ht => noOwn_get hno ht]
 obtain ⟨_, s', hrun, hG⟩ := h
 refine ⟨hc, _, _, callA_at ct ρ hm.1 hm.2 hsep, ?_, s', by rw [hcall]; exact hrun, hG⟩
 rw [hcall]
 exact ext_append _ _
def allDn (f : List Nat → Prop) : List (List Nat) → Prop
 | [] => True
 | [σ] => f σ
 | σ :: l => f σ ∧ allDn f l
theorem allDn_mem {f : List Nat → Prop} : ∀ {l : List (List Nat)}, allDn f l → ∀ σ ∈ l, f σ
 | [σ], h, _, hm => by simp at hm; subst hm; exact h
 | σ :: τ :: l, h, x, hm => by
  rcases List.mem_cons.1 hm with rfl | hm
  ·exact h.1
  ·exact allDn_mem h.2 x hm
theorem den_draw {P : Program} {E : Entry} {F : S → Prop} {id : Nat} {r : Array Oper} {k : List Item} {s : S} {c : Prop} (U : List (Nat × Nat)) (os : List (List Nat)) (hP : P.follows .mixedOrders = true) (hc : c) (hcov : coverB P r U os = true)
  (h : allDn (fun σ => denD P r (fun s' => den P E F (.go k s' True)) (.go σ s True)) os) : den P E F (.draw id r k s c) := by
 refine ⟨hc, den_mono (wp_drawn hP hcov (K := fun s' => den P E F (.go k s' True)) fun σ hσ => let ⟨s', h1, h2⟩ := (allDn_mem h σ hσ).2; ⟨s', h1, fun β a w hs => ⟨β, s', h2, hs⟩⟩) fun e s' hk => ?_⟩
 obtain ⟨rfl, hk⟩ := hk
 exact hk.2
theorem den_draw1 {P : Program} {E : Entry} {F : S → Prop} {id : Nat} {r : Array Oper} {k : List Item} {s : S} {c : Prop} (σ : List Nat) (hP : P.follows .mixedOrders = true) (hc : c) (hcov : coverB P r [] [σ] = true)
  (h : denD P r (fun s' => den P E F (.go k s' True)) (.go σ s True)) : den P E F (.draw id r k s c) :=
 den_draw [] [σ] hP hc hcov h
attribute [go_sem] runD stepD stepOpD allDn
end
section
open Go.RowKit

theorem drawn_before {r : Array Oper} (hb : backB r = true) : ∀ {τ : List Nat} {fuel : Nat} {listed : Array Bool}, Drawn r fuel listed τ → ∀ {p q : Nat} {o : Oper} {e : Edge}, r[q]? = some o → e ∈ o.after.toList → Region.binds .any e = true → e.on = p → listed.size = r.size → listed.getD p true = false → before τ p q = true
 | [], fuel, listed, _, p, q, o, e, ho, he, hbd, hp, _, _ => by
  have := back_lt hb ho he hbd
  simp only [before, decide_eq_true_eq]
  omega
 | i :: τ, 0, listed, h, _, _, _, _, _, _, _, _, _, _ => h.elim
 | i :: τ, fuel + 1, listed, ⟨hi, hd⟩, p, q, o, e, ho, he, hbd, hp, hsz, hl => by
  obtain ⟨oi, hoi, h1, h2⟩ := ready_iff.1 hi
  have hil : i < listed.size := by rw [hsz]; exact (Array.getElem?_eq_some_iff.1 hoi).1
  simp only [before]
  by_cases h3 : i = p
  ·rw [if_pos h3]
  ·rw [if_neg h3]
   by_cases h4 : i = q
   ·exfalso
    subst h4
    rw [ho] at hoi
    cases hoi
    have h5 := h2 e he hbd
    rw [hp] at h5
    have hlt : p < listed.size := by
     have := back_lt hb ho he hbd
     have := (Array.getElem?_eq_some_iff.1 ho).1
     omega
    rw [Array.getD_eq_getD_getElem?, Array.getElem?_eq_getElem hlt] at h5 hl
    simp only [Option.getD_some] at h5 hl
    rw [h5] at hl
    cases hl
   ·rw [if_neg h4]
    exact drawn_before hb hd ho he hbd hp (by simpa using hsz) (by rw [set_getD hil, if_neg h3]; exact hl)
theorem before_cyc {a b c : Nat} (h1 : a ≠ b) (h2 : b ≠ c) (h3 : a ≠ c) : ∀ {l : List Nat}, before l a b = true → before l b c = true → before l c a = true → False
 | [], x, y, z => by
  simp only [before, decide_eq_true_eq] at x y z
  omega
 | i :: l, x, y, z => by
  simp only [before] at x y z
  by_cases ha : i = a
  ·subst ha
   rw [if_neg h3, if_pos rfl] at z
   cases z
  ·rw [if_neg ha] at x
   by_cases hb : i = b
   ·rw [if_pos hb] at x
    cases x
   ·rw [if_neg hb] at x y
    by_cases hc : i = c
    ·rw [if_pos hc] at y
     cases y
    ·rw [if_neg hc] at y z
     rw [if_neg ha] at z
     exact before_cyc h1 h2 h3 x y z
def edgeB (r : Array Oper) (b c : Nat) : Bool := match r[c]? with
 | some o => o.after.toList.any fun e => Region.binds .any e && e.on == b
 | none => false
def badB (r : Array Oper) (ex : List (Nat × Nat)) : Bool := ex.any fun u => ex.any fun v => v.2 == u.1 && (u.1 != v.1 && (u.2 != v.1 && (u.1 != u.2 && (edgeB r u.2 v.1 && decide (u.2 < r.size)))))
def coverC (P : Program) (r : Array Oper) (U : List (Nat × Nat)) (os : List (List Nat)) : Bool :=
 backB r && U.all (fun u => u.1 != u.2) && os.all (fun σ => σ.length == r.size && (List.range r.size).all σ.contains && σ.all fun i => decide (i < r.size)) &&
 (let T := clo r; (choices U).all fun ex => badB r ex || os.any fun σ => okL P r T ex σ)
theorem wp_drawnC {P : Program} {E : Entry} {id : Nat} {r : Array Oper} {U : List (Nat × Nat)} {os : List (List Nat)} (hP : P.follows .mixedOrders = true) (hcov : coverC P r U os = true) {s : S} {K : S → Prop}
  (h : ∀ σ ∈ os, ∃ s', RunN P r σ s s' ∧ ∀ β a w, Sim E β s' a w → ∃ β' t, K t ∧ Sim E β' t a w) : Den P E (.region id r true) s fun e s' => e = .normal ∧ K s' := by
 intro β a w hs Q hQ
 refine wp_region_draw fun t => ?_
 simp only [Region.schedule, hP, Bool.true_or, if_true]
 simp only [coverC, Bool.and_eq_true] at hcov
 obtain ⟨⟨⟨hback, hU⟩, hperm⟩, hch⟩ := hcov
 have hd := drawn_go (r := r) r.size t (Array.replicate r.size false)
 obtain ⟨ex, hex, hbef⟩ := choice_of (Region.linearise .any r t) (U := U) fun u hu => by
  have := List.all_eq_true.1 hU u hu
  simpa using this
 have hsome := List.all_eq_true.1 hch ex hex
 rcases Bool.or_eq_true_iff.1 hsome with hbad | hsome
 ·exfalso
  obtain ⟨u, hu, hbad⟩ := List.any_eq_true.1 hbad
  obtain ⟨v, hv, hbad⟩ := List.any_eq_true.1 hbad
  simp only [Bool.and_eq_true, beq_iff_eq, bne_iff_ne, ne_eq, decide_eq_true_eq] at hbad
  obtain ⟨h1, h2, h3, h4, h5, h6⟩ := hbad
  have b1 := hbef u.1 u.2 (by rw [List.contains_iff_mem]; exact hu)
  have b2 := hbef v.1 v.2 (by rw [List.contains_iff_mem]; exact hv)
  rw [h1] at b2
  unfold edgeB at h5
  split at h5
  ·rename_i o ho
   obtain ⟨e, he, he2⟩ := List.any_eq_true.1 h5
   simp only [Bool.and_eq_true, beq_iff_eq] at he2
   have b3 := drawn_before hback hd ho he he2.1 he2.2 (by simp) (by simp [Array.getD_eq_getD_getElem?, h6])
   exact before_cyc h4 h3 h2 b1 b3 b2
  ·cases h5
 ·obtain ⟨σ, hσ, hok⟩ := List.any_eq_true.1 hsome
  have hp := List.all_eq_true.1 hperm σ hσ
  simp only [Bool.and_eq_true, beq_iff_eq, List.all_eq_true, List.mem_range, decide_eq_true_eq] at hp
  obtain ⟨⟨hlen, hall⟩, hlt⟩ := hp
  obtain ⟨s', hrun, hK⟩ := h σ hσ
  have hs2 : Sim E β s a { w with drawn := w.drawn + 1 } := ⟨hs.dfr, hs.sl, ⟨hs.hp.len, hs.hp.ob, hs.hp.flat, hs.hp.apart⟩, hs.ent, ⟨hs.st.le, hs.st.os, hs.st.tape, hs.st.output, hs.st.size, hs.st.block, hs.st.len, hs.st.old, hs.st.fresh⟩⟩
  refine ops_of_run hback (fun β' a' w' hs' => let ⟨β2, t2, hk2, hs2⟩ := hK β' a' w' hs'; hQ .normal t2 β2 a' w' ⟨rfl, hk2⟩ hs2) (Region.linearise .any r t) r.size _ σ s β a _ hd (by simp) (by omega) (fun i => ?_) (fun i o ho hl => ?_) hok (fun p q hpq _ _ => hbef p q hpq) hrun hs2
  ·constructor
   ·intro hi
    refine ⟨hlt i hi, ?_⟩
    simp [Array.getD_eq_getD_getElem?, hlt i hi]
   ·rintro ⟨hi, _⟩
    simpa using hall i hi
  ·exfalso
   simp only [Array.getD_eq_getD_getElem?, Array.getElem?_replicate] at hl
   split at hl <;> cases hl
theorem den_drawC {P : Program} {E : Entry} {F : S → Prop} {id : Nat} {r : Array Oper} {k : List Item} {s : S} {c : Prop} (U : List (Nat × Nat)) (os : List (List Nat)) (hP : P.follows .mixedOrders = true) (hc : c) (hcov : coverC P r U os = true)
  (h : allDn (fun σ => denD P r (fun s' => den P E F (.go k s' True)) (.go σ s True)) os) : den P E F (.draw id r k s c) := by
 refine ⟨hc, den_mono (wp_drawnC hP hcov (K := fun s' => den P E F (.go k s' True)) fun σ hσ => let ⟨s', h1, h2⟩ := (allDn_mem h σ hσ).2; ⟨s', h1, fun β a w hs => ⟨β, s', h2, hs⟩⟩) fun e s' hk => ?_⟩
 obtain ⟨rfl, hk⟩ := hk
 exact hk.2
end
section
open Go.RowKit

def indepW (P : Program) (r : Array Oper) (i j : Oper) : Bool :=
 optNe i.dst j.dst && notIn i.dst (looks r j) && notIn j.dst (looks r i) && (cls P i == 0 && cls P j != 5 || cls P i == 1 && (cls P j != 4 && cls P j != 3))
def ActW (P : Program) (o : Oper) (s s' : S) : Prop :=
 (∃ x, aop P s o.type o.op = some x ∧ x.c ∧ s' = s.put o.dst x.v x.hp) ∨
 (∃ (y : Operand) (args : Array Operand) (at_ : Array TypeId) (f : Nat) (caps : List Sc) (avs : List AV) (res : AV) (h' : Hp), o.op = .call ⟨.value y, args, at_⟩ ∧ s.ev y = some (.cl f caps) ∧ s.evs args.toList = some avs ∧
  CallA P f (avs ++ scAll caps) s.hp res h' ∧ s' = s.put o.dst (some res) h')
def StepW (P : Program) (r : Array Oper) (i : Nat) (s s' : S) : Prop :=
 match r[i]? with
 | none => s' = s
 | some o => match guardOf r s o with
  | some true => ActW P o s s'
  | some false => s' = s.put o.dst (some (.tu [])) s.hp
  | none => False
def RunW (P : Program) (r : Array Oper) : List Nat → S → S → Prop
 | [], s, s' => s' = s
 | i :: l, s, s'' => ∃ s', StepW P r i s s' ∧ RunW P r l s' s''
theorem swapW {P : Program} {r : Array Oper} {i j : Nat} {oi oj : Oper} (hi : r[i]? = some oi) (hj : r[j]? = some oj) (hind : indepW P r oi oj = true) {s s1 s2 : S} (h1 : StepW P r i s s1) (h2 : StepW P r j s1 s2) :
  ∃ s1', StepW P r j s s1' ∧ StepW P r i s1' s2 := by
 simp only [indepW, Bool.and_eq_true, Bool.or_eq_true, beq_iff_eq, bne_iff_ne] at hind
 obtain ⟨⟨⟨hne, hij⟩, hji⟩, hcls⟩ := hind
 have hci : cls P oi = 0 ∨ cls P oi = 1 := by rcases hcls with h | h; exact .inl h.1; exact .inr h.1
 unfold StepW at h1 h2
 rw [hi] at h1
 rw [hj] at h2
 dsimp only at h1 h2
 -- what step i does: it puts a value, and leaves the heap
 have key : ∃ v, s1 = s.put oi.dst v s.hp ∧ ∀ (t : S), Alike (looks r oi) s t → (cls P oi = 0 ∨ Hp.ext s.hp t.hp) → StepW P r i t (t.put oi.dst v t.hp) := by
  split at h1
  ·rename_i hg
   rcases h1 with ⟨x, hx, hc, rfl⟩ | ⟨y, args, at_, f, caps, avs, res, h', ho, _⟩
   ·have hx2 : x.hp = s.hp ∧ ∀ t : S, Alike (looks r oi) s t → (cls P oi = 0 ∨ Hp.ext s.hp t.hp) → aop P t oi.type oi.op = some ⟨x.v, t.hp, x.c⟩ := by
     have eqv : ∀ t : S, Alike (looks r oi) s t → aop P t oi.type oi.op = aop P ⟨s.sl, t.hp⟩ oi.type oi.op := fun t ha => (aop_alike (s := ⟨s.sl, t.hp⟩) (s' := t) rfl (fun q hq => alike_ops ha q hq)).symm
     rcases hci with h0 | h0
     ·obtain ⟨e1, e2⟩ := aop_pure h0 hx
      exact ⟨e1, fun t ha _ => by rw [eqv t ha]; exact e2 t.hp⟩
     ·obtain ⟨e1, e2⟩ := aop_read h0 hx
      exact ⟨e1, fun t ha he => by rw [eqv t ha]; exact e2 t.hp (he.resolve_left (by rw [h0]; simp))⟩
    refine ⟨x.v, by rw [hx2.1], fun t ha he => ?_⟩
    unfold StepW
    rw [hi]
    dsimp only
    rw [← guard_alike ha, hg]
    exact .inl ⟨_, hx2.2 t ha he, hc, rfl⟩
   ·exfalso
    have : cls P oi = 3 := by unfold cls; rw [ho]; rfl
    omega
  ·rename_i hg
   refine ⟨some (.tu []), h1, fun t ha _ => ?_⟩
   unfold StepW
   rw [hi]
   dsimp only
   rw [← guard_alike ha, hg]
  ·exact h1.elim
 obtain ⟨v, rfl, hstep⟩ := key
 have hal : Alike (looks r oj) s (s.put oi.dst v s.hp) := alike_put hij
 have hhp : (s.put oi.dst v s.hp).hp = s.hp := put_hp _ _ _ _
 rw [← guard_alike hal] at h2
 -- what step j does
 have fin : ∀ (u : Option AV) (h' : Hp), s2 = (s.put oi.dst v s.hp).put oj.dst u h' → (cls P oi = 0 ∨ Hp.ext s.hp h') → StepW P r j s (s.put oj.dst u h') → ∃ s1', StepW P r j s s1' ∧ StepW P r i s1' s2 := by
  intro u h' he hx hj'
  refine ⟨s.put oj.dst u h', hj', ?_⟩
  have h3 := hstep (s.put oj.dst u h') (alike_put hji) (by rw [put_hp]; exact hx)
  rw [put_hp] at h3
  rw [he, put_put s v u s.hp h' hne]
  exact h3
 split at h2
 ·rename_i hg
  rcases h2 with ⟨x, hx, hc, rfl⟩ | ⟨y, args, at_, f, caps, avs, res, h', ho, hy, ha, hcall, rfl⟩
  ·have hx' : aop P s oj.type oj.op = some x := by rw [aop_alike (s := s) (s' := s.put oi.dst v s.hp) hhp.symm (alike_ops hal)]; exact hx
   refine fin x.v x.hp rfl ?_ ?_
   ·rcases hcls with h0 | h0
    ·exact .inl h0.1
    ·right
     have h4 : cls P oj ≠ 4 := h0.2.1
     exact aop_ext hx' h4
   ·unfold StepW
    rw [hj]
    dsimp only
    rw [hg]
    exact .inl ⟨x, hx', hc, rfl⟩
  ·have hal' := alike_ops hal
   rw [ho] at hal'
   have e1 : s.ev y = some (.cl f caps) := by
    rw [ev_alike (s := s) (s' := s.put oi.dst v s.hp) (x := y) (fun t ht => hal' t (mem_opTmps (by subst ht; simp [Op.operands, Call.operands])))]
    exact hy
   have e2 : s.evs args.toList = some avs := by
    rw [evs_alike (s := s) (s' := s.put oi.dst v s.hp) (l := args.toList) (fun z hz => ev_alike fun t ht => hal' t (mem_opTmps (by subst ht; simp [Op.operands, Call.operands]; right; simpa using hz)))]
    exact ha
   rw [hhp] at hcall
   refine fin (some res) h' rfl (.inl (by
    have h3 : cls P oj = 3 := by unfold cls; rw [ho]; rfl
    rcases hcls with h | h
    ·exact h.1
    ·exact absurd h3 h.2.2)) ?_
   unfold StepW
   rw [hj]
   dsimp only
   rw [hg]
   exact .inr ⟨y, args, at_, f, caps, avs, res, h', ho, e1, e2, hcall, rfl⟩
 ·rename_i hg
  refine fin (some (.tu [])) s.hp (by rw [h2, hhp]) (.inr fun o ob h => h) ?_
  unfold StepW
  rw [hj]
  dsimp only
  rw [hg]
 ·exact h2.elim
theorem swapCW {P : Program} {r : Array Oper} {i j : Nat} {oi oj : Oper} (hi : r[i]? = some oi) (hj : r[j]? = some oj) (hind : indepC P r oi oj = true) {s s1 s2 : S} (h1 : StepW P r i s s1) (h2 : StepW P r j s1 s2) :
  ∃ s1', StepW P r j s s1' ∧ StepW P r i s1' s2 := by
 simp only [indepC, Bool.and_eq_true, beq_iff_eq] at hind
 obtain ⟨⟨⟨hne, hij⟩, hji⟩, hcj⟩ := hind
 unfold StepW at h1 h2
 rw [hi] at h1
 rw [hj] at h2
 dsimp only at h1 h2
 -- what step i does: it puts a value and a heap
 have key : ∃ v hp, s1 = s.put oi.dst v hp ∧ ∀ (t : S), Alike (looks r oi) s t → t.hp = s.hp → StepW P r i t (t.put oi.dst v hp) := by
  split at h1
  ·rename_i hg
   rcases h1 with ⟨x, hx, hc, rfl⟩ | ⟨y, args, at_, f, caps, avs, res, h', ho, hy, ha, hcall, rfl⟩
   ·refine ⟨x.v, x.hp, rfl, fun t ha he => ?_⟩
    unfold StepW
    rw [hi]
    dsimp only
    rw [← guard_alike ha, hg]
    exact .inl ⟨x, by rw [← aop_alike he.symm (alike_ops ha)]; exact hx, hc, rfl⟩
   ·refine ⟨some res, h', rfl, fun t hal he => ?_⟩
    unfold StepW
    rw [hi]
    dsimp only
    rw [← guard_alike hal, hg]
    have hal' := alike_ops hal
    rw [ho] at hal'
    have e1 : t.ev y = some (.cl f caps) := by
     rw [← ev_alike (s := s) (s' := t) (x := y) (fun q hq => hal' q (mem_opTmps (by subst hq; simp [Op.operands, Call.operands])))]
     exact hy
    have e2 : t.evs args.toList = some avs := by
     rw [← evs_alike (s := s) (s' := t) (l := args.toList) (fun z hz => ev_alike fun q hq => hal' q (mem_opTmps (by subst hq; simp [Op.operands, Call.operands]; right; simpa using hz)))]
     exact ha
    exact .inr ⟨y, args, at_, f, caps, avs, res, h', ho, e1, e2, by rw [he]; exact hcall, rfl⟩
  ·rename_i hg
   refine ⟨some (.tu []), s.hp, h1, fun t ha he => ?_⟩
   unfold StepW
   rw [hi]
   dsimp only
   rw [← guard_alike ha, hg]
   dsimp only
   rw [he]
  ·exact h1.elim
 obtain ⟨v, hp, rfl, hstep⟩ := key
 have hal : Alike (looks r oj) s (s.put oi.dst v hp) := alike_put hij
 rw [← guard_alike hal] at h2
 have fin : ∀ (u : Option AV), s2 = (s.put oi.dst v hp).put oj.dst u hp → StepW P r j s (s.put oj.dst u s.hp) → ∃ s1', StepW P r j s s1' ∧ StepW P r i s1' s2 := by
  intro u he hj'
  refine ⟨s.put oj.dst u s.hp, hj', ?_⟩
  have h3 := hstep (s.put oj.dst u s.hp) (alike_put hji) (put_hp _ _ _ _)
  rw [he, put_put s v u hp hp hne]
  have e : ∀ (a b : S) (d : Option Tmp) (x : Option AV) (h : Hp), a.sl = b.sl → a.put d x h = b.put d x h := by
   intro a b d x h hab
   cases d <;> simp [S.put, hab]
  rw [e (s.put oj.dst u hp) (s.put oj.dst u s.hp) oi.dst v hp (by cases oj.dst <;> rfl)]
  exact h3
 split at h2
 ·rename_i hg
  rcases h2 with ⟨x, hx, hc, rfl⟩ | ⟨y, args, at_, f, caps, avs, res, h', ho, _⟩
  ·have hx1 : aop P ⟨s.sl, hp⟩ oj.type oj.op = some x := by
    rw [aop_alike (s := ⟨s.sl, hp⟩) (s' := s.put oi.dst v hp) (by rw [put_hp]) (fun q hq => alike_ops hal q hq)]
    exact hx
   obtain ⟨e1, e2⟩ := aop_pure hcj hx1
   have e3 := e2 s.hp
   refine fin x.v (by rw [e1]) ?_
   unfold StepW
   rw [hj]
   dsimp only
   rw [hg]
   exact .inl ⟨_, e3, hc, rfl⟩
  ·exfalso
   have : cls P oj = 3 := by unfold cls; rw [ho]; rfl
   omega
 ·rename_i hg
  refine fin (some (.tu [])) (by rw [h2, put_hp]) ?_
  unfold StepW
  rw [hj]
  dsimp only
  rw [hg]
 ·exact h2.elim
def okPW (P : Program) (r : Array Oper) (T : List Nat) (ex : List (Nat × Nat)) (p q : Nat) : Bool :=
 p != q && !(T.getD p 0).testBit q &&
 ((T.getD q 0).testBit p || ex.contains (p, q) || match r[p]?, r[q]? with
  | some x, some y => indepW P r x y || indepC P r x y
  | _, _ => false)
def okLW (P : Program) (r : Array Oper) (T : List Nat) (ex : List (Nat × Nat)) : List Nat → Bool
 | [] => true
 | p :: l => l.all (okPW P r T ex p) && okLW P r T ex l
theorem okLW_drop {P : Program} {r : Array Oper} {T : List Nat} {ex : List (Nat × Nat)} {i : Nat} : ∀ {l m : List Nat}, okLW P r T ex (l ++ i :: m) = true → okLW P r T ex (l ++ m) = true
 | [], m, h => by simp only [List.nil_append, okLW, Bool.and_eq_true] at h ⊢; exact h.2
 | p :: l, m, h => by
  simp only [List.cons_append, okLW, Bool.and_eq_true, List.all_eq_true] at h ⊢
  refine ⟨fun q hq => h.1 q ?_, okLW_drop h.2⟩
  simp only [List.mem_append, List.mem_cons] at hq ⊢
  exact hq.imp id .inr
theorem okLW_at {P : Program} {r : Array Oper} {T : List Nat} {ex : List (Nat × Nat)} {i p : Nat} : ∀ {l m : List Nat}, okLW P r T ex (l ++ i :: m) = true → p ∈ l → okPW P r T ex p i = true
 | [], m, _, h => by simp at h
 | q :: l, m, h, hp => by
  simp only [List.cons_append, okLW, Bool.and_eq_true, List.all_eq_true] at h
  rcases List.mem_cons.1 hp with rfl | hp
  ·exact h.1 i (by simp)
  ·exact okLW_at h.2 hp
theorem okLW_head {P : Program} {r : Array Oper} {T : List Nat} {ex : List (Nat × Nat)} {i p : Nat} {l : List Nat} (h : okLW P r T ex (i :: l) = true) (hp : p ∈ l) : okPW P r T ex i p = true := by
 simp only [okLW, Bool.and_eq_true, List.all_eq_true] at h
 exact h.1 p hp
theorem okLW_nodup {P : Program} {r : Array Oper} {T : List Nat} {ex : List (Nat × Nat)} : ∀ {l : List Nat}, okLW P r T ex l = true → l.Nodup
 | [], _ => List.nodup_nil
 | p :: l, h => by
  refine List.nodup_cons.2 ⟨fun hp => ?_, okLW_nodup (by simp only [okLW, Bool.and_eq_true] at h; exact h.2)⟩
  have := okLW_head h hp
  simp [okPW] at this
theorem run_frontW {P : Program} {r : Array Oper} {i : Nat} : ∀ {l m : List Nat} {s s' : S}, (∀ p ∈ l, ∃ x y, r[p]? = some x ∧ r[i]? = some y ∧ (indepW P r x y || indepC P r x y) = true) → RunW P r (l ++ i :: m) s s' → RunW P r (i :: (l ++ m)) s s'
 | [], m, s, s', _, h => h
 | p :: l, m, s, s', hl, h => by
  obtain ⟨s1, h1, h2⟩ := h
  obtain ⟨s2, h3, h4⟩ := run_frontW (fun q hq => hl q (List.mem_cons_of_mem _ hq)) h2
  obtain ⟨x, y, hx, hy, hind⟩ := hl p (by simp)
  rcases (Bool.or_eq_true _ _).mp hind with hind | hind
  ·obtain ⟨s1', h5, h6⟩ := swapW hx hy hind h1 h3
   exact ⟨s1', h5, s2, h6, h4⟩
  ·obtain ⟨s1', h5, h6⟩ := swapCW hx hy hind h1 h3
   exact ⟨s1', h5, s2, h6, h4⟩
theorem stepW_wp {P : Program} {E : Entry} {r : Array Oper} {i : Nat} {s s1 : S} {β : Be} {a : Act} {w : World} {Q : Exit → Act → World → Prop} {K : Act → World → Prop} (h : StepW P r i s s1) (hs : Sim E β s a w) (hK : ∀ β' a' w', Sim E β' s1 a' w' → K a' w') : wpOp P r Q i K a w := by
 unfold wpOp
 unfold StepW at h
 split at h
 ·rename_i hi
  subst h
  rw [hi]
  exact hK β a w hs
 ·rename_i o ho
  rw [ho]
  dsimp only
  split at h
  ·rename_i hg
   rw [if_pos (guard_R hs.sl hg)]
   refine .inl ?_
   unfold Oper.wp
   rcases h with ⟨x, hx, hc, rfl⟩ | ⟨y, args, at_, f, caps, avs, res, h', hop, hy, ha, ⟨⟨fn, hfn, hname, hbody⟩, hcall⟩, rfl⟩
   ·obtain ⟨β', w', hst, hh, hx'⟩ := aop_sound hs.hp hs.sl hx hc
    rcases hx' with ⟨v, av, hrun, hv, hr⟩ | ⟨hrun, hv⟩
    ·rw [hrun]
     rw [hv] at hK
     exact hK β' _ w' (sim_put hs hst hh o.dst hr)
    ·rw [hrun]
     rw [hv] at hK
     exact hK β' _ w' (sim_putNone hs hst hh o.dst undef)
   ·obtain ⟨cvs, hxe, hcl⟩ : AVR β (.cl f caps) (a.eval y) := ev_R hs.sl hy
    have hav := evs_R hs.sl ha
    have hvs : L2 (AVR β) (avs ++ scAll caps) (args.toList.map a.eval ++ cvs) := hav.append (scAll_R hcl)
    have hrun : (execOp a.eval o).run P w = .ok (.enter f (args.toList.map a.eval ++ cvs).toArray) w := by
     unfold execOp
     rw [hop]
     have e1 : args.map a.eval = (args.toList.map a.eval).toArray := by apply Array.ext'; simp
     have hname' : ¬ fn.name = "runtime.NumGoroutine" := by simpa using hname
     simp only [resolve, hxe, Deferred.ofValue, invoke, callFunc, Sem.run_bind, run_program, Sem.run_pure, Result.andThen_ok, hfn, e1]
     simp [hname', hbody]
    rw [hrun, Oper.upon_enter]
    refine (hcall β w _ hs.hp hvs).mono fun e w' ⟨β', v, he, hr, hh, hst⟩ => ?_
    subst he
    exact hK β' _ w' (sim_put hs hst hh o.dst hr)
  ·rename_i hg
   rw [guard_R hs.sl hg]
   subst h
   exact hK β _ w (sim_put hs (StepR.refl β s.hp w hs.hp.len) hs.hp o.dst ⟨[], rfl, trivial⟩)
  ·exact h.elim

theorem ops_of_runW {P : Program} {E : Entry} {r : Array Oper} {Q : Exit → Act → World → Prop} {ex : List (Nat × Nat)} {s' : S} (hback : backB r = true) (hQ : ∀ β' a' w', Sim E β' s' a' w' → Q .normal a' w') :
  ∀ (τ : List Nat) (fuel : Nat) (listed : Array Bool) (σ : List Nat) (s : S) (β : Be) (a : Act) (w : World), Drawn r fuel listed τ → listed.size = r.size → σ.length ≤ fuel → (∀ i, i ∈ σ ↔ i < r.size ∧ listed.getD i true = false) → Closed r listed →
   okLW P r (clo r) ex σ = true → (∀ p q, ex.contains (p, q) = true → p ∈ σ → q ∈ σ → before τ p q = true) → RunW P r σ s s' → Sim E β s a w → wpOps P r Q τ a w
 | [], fuel, listed, σ, s, β, a, w, hd, hsz, hf, hm, hc, hok, hx, hrun, hs => by
  have hnil : σ = [] := by
   rcases drawn_nil hd with rfl | hd
   ·exact List.length_eq_zero_iff.1 (by omega)
   ·cases σ with
    | nil => rfl
    | cons p l =>
     exfalso
     have hp := (hm p).1 (by simp)
     have : p ∈ Region.ready .any r listed := by
      refine ready_iff.2 ⟨r[p], Array.getElem?_eq_getElem hp.1, hp.2, fun e he hb => ?_⟩
      have hbit : ((clo r).getD p 0).testBit e.on = true := (clo_spec (Array.getElem?_eq_getElem hp.1) e.on).2 ⟨e, he, hb, .inl rfl⟩
      have hlt0 := back_lt hback (Array.getElem?_eq_getElem hp.1) he hb
      have hlt : e.on < r.size := Nat.lt_trans hlt0 hp.1
      cases hl : listed.getD e.on false with
      | true => rfl
      | false =>
       exfalso
       have hl' : listed.getD e.on true = false := by
        rw [Array.getD_eq_getD_getElem?, Array.getElem?_eq_getElem (by omega)] at hl ⊢
        exact hl
       have hmem : e.on ∈ p :: l := (hm e.on).2 ⟨hlt, hl'⟩
       rcases List.mem_cons.1 hmem with hep | hmem
       ·omega
       ·have := okLW_head hok hmem
        simp only [okPW, Bool.and_eq_true, Bool.not_eq_true'] at this
        rw [this.1.2] at hbit
        cases hbit
     rw [hd] at this
     simp at this
  subst hnil
  have : s' = s := hrun
  subst this
  exact hQ β a w hs
 | i :: τ, 0, listed, σ, s, β, a, w, hd, _, _, _, _, _, _, _, _ => hd.elim
 | i :: τ, fuel + 1, listed, σ, s, β, a, w, hd, hsz, hf, hm, hc, hok, hx, hrun, hs => by
  obtain ⟨hi, hd⟩ := hd
  obtain ⟨o, ho, h1, h2⟩ := ready_iff.1 hi
  have hil : i < r.size := (Array.getElem?_eq_some_iff.1 ho).1
  have hiσ : i ∈ σ := (hm i).2 ⟨hil, h1⟩
  obtain ⟨l, m, rfl⟩ := List.append_of_mem hiσ
  have hnd := okLW_nodup hok
  have hfront : ∀ p ∈ l, ∃ x y, r[p]? = some x ∧ r[i]? = some y ∧ (indepW P r x y || indepC P r x y) = true := by
   intro p hp
   have hpl := (hm p).1 (by simp [hp])
   have h3 := okLW_at hok hp
   have hpi : p ≠ i := by
    intro e
    subst e
    simp [okPW] at h3
   simp only [okPW, Bool.and_eq_true, Bool.or_eq_true] at h3
   rcases h3.2 with (h4 | h4) | h4
   ·exfalso
    have := clo_listed hc i o ho h2 p h4
    have h5 := hpl.2
    rw [Array.getD_eq_getD_getElem?, Array.getElem?_eq_getElem (by omega)] at this h5
    simp only [Option.getD_some] at this h5
    rw [this] at h5
    cases h5
   ·exfalso
    have := hx p i h4 (by simp [hp]) (by simp)
    simp [before, hpi, Ne.symm hpi] at this
   ·split at h4
    ·rename_i x y hx hy
     exact ⟨x, y, hx, hy, h4⟩
    ·cases h4
  obtain ⟨s1, h3, h4⟩ := run_frontW hfront hrun
  have hset : ∀ (j : Nat) (d : Bool), (listed.setIfInBounds i true).getD j d = if i = j then true else listed.getD j d := fun j d => set_getD (by omega)
  rw [wpOps_cons]
  refine stepW_wp h3 hs fun β' a' w' hs' => ?_
  refine ops_of_runW hback hQ τ fuel (listed.setIfInBounds i true) (l ++ m) s1 β' a' w' hd (by simpa using hsz) ?_ ?_ ?_ (okLW_drop hok) ?_ h4 hs'
  ·simp only [List.length_append, List.length_cons] at hf ⊢
   omega
  ·intro j
   have hj := hm j
   rw [hset]
   have hd1 : i ∉ l ∧ i ∉ m := by
    rw [List.nodup_append] at hnd
    exact ⟨fun h => hnd.2.2 i h i (by simp) rfl, (List.nodup_cons.1 hnd.2.1).1⟩
   simp only [List.mem_append, List.mem_cons] at hj ⊢
   by_cases hij : i = j
   ·subst hij
    simp [hd1.1, hd1.2]
   ·rw [if_neg hij, ← hj]
    simp [Ne.symm hij]
  ·intro j oj hj hl e he hb
   rw [hset] at hl ⊢
   by_cases hij : i = j
   ·subst hij
    rw [hj] at ho
    cases ho
    split
    ·rfl
    ·exact h2 e he hb
   ·rw [if_neg hij] at hl
    split
    ·rfl
    ·exact hc j oj hj hl e he hb
  ·intro p q hpq hp hq
   have hd1 : i ∉ l ∧ i ∉ m := by
    rw [List.nodup_append] at hnd
    exact ⟨fun h => hnd.2.2 i h i (by simp) rfl, (List.nodup_cons.1 hnd.2.1).1⟩
   have hne : ∀ x ∈ l ++ m, i ≠ x := by
    intro x hx e
    subst e
    exact (List.mem_append.1 hx).elim hd1.1 hd1.2
   have hin : ∀ x ∈ l ++ m, x ∈ l ++ i :: m := by
    intro x hx
    simp only [List.mem_append, List.mem_cons] at hx ⊢
    exact hx.imp id .inr
   have := hx p q hpq (hin p hp) (hin q hq)
   simpa [before, hne p hp, hne q hq] using this
def coverW (P : Program) (r : Array Oper) (U : List (Nat × Nat)) (os : List (List Nat)) : Bool :=
 backB r && U.all (fun u => u.1 != u.2) && os.all (fun σ => σ.length == r.size && (List.range r.size).all σ.contains && σ.all fun i => decide (i < r.size)) &&
 (let T := clo r; (choices U).all fun ex => badB r ex || os.any fun σ => okLW P r T ex σ)
theorem wp_drawnW {P : Program} {E : Entry} {id : Nat} {r : Array Oper} {U : List (Nat × Nat)} {os : List (List Nat)} (hP : P.follows .mixedOrders = true) (hcov : coverW P r U os = true) {s : S} {K : S → Prop}
  (h : ∀ σ ∈ os, ∃ s', RunW P r σ s s' ∧ ∀ β a w, Sim E β s' a w → ∃ β' t, K t ∧ Sim E β' t a w) : Den P E (.region id r true) s fun e s' => e = .normal ∧ K s' := by
 intro β a w hs Q hQ
 refine wp_region_draw fun t => ?_
 simp only [Region.schedule, hP, Bool.true_or, if_true]
 simp only [coverW, Bool.and_eq_true] at hcov
 obtain ⟨⟨⟨hback, hU⟩, hperm⟩, hch⟩ := hcov
 have hd := drawn_go (r := r) r.size t (Array.replicate r.size false)
 obtain ⟨ex, hex, hbef⟩ := choice_of (Region.linearise .any r t) (U := U) fun u hu => by
  have := List.all_eq_true.1 hU u hu
  simpa using this
 have hsome := List.all_eq_true.1 hch ex hex
 rcases Bool.or_eq_true_iff.1 hsome with hbad | hsome
 ·exfalso
  obtain ⟨u, hu, hbad⟩ := List.any_eq_true.1 hbad
  obtain ⟨v, hv, hbad⟩ := List.any_eq_true.1 hbad
  simp only [Bool.and_eq_true, beq_iff_eq, bne_iff_ne, ne_eq, decide_eq_true_eq] at hbad
  obtain ⟨h1, h2, h3, h4, h5, h6⟩ := hbad
  have b1 := hbef u.1 u.2 (by rw [List.contains_iff_mem]; exact hu)
  have b2 := hbef v.1 v.2 (by rw [List.contains_iff_mem]; exact hv)
  rw [h1] at b2
  unfold edgeB at h5
  split at h5
  ·rename_i o ho
   obtain ⟨e, he, he2⟩ := List.any_eq_true.1 h5
   simp only [Bool.and_eq_true, beq_iff_eq] at he2
   have b3 := drawn_before hback hd ho he he2.1 he2.2 (by simp) (by simp [Array.getD_eq_getD_getElem?, h6])
   exact before_cyc h4 h3 h2 b1 b3 b2
  ·cases h5
 ·obtain ⟨σ, hσ, hok⟩ := List.any_eq_true.1 hsome
  have hp := List.all_eq_true.1 hperm σ hσ
  simp only [Bool.and_eq_true, beq_iff_eq, List.all_eq_true, List.mem_range, decide_eq_true_eq] at hp
  obtain ⟨⟨hlen, hall⟩, hlt⟩ := hp
  obtain ⟨s', hrun, hK⟩ := h σ hσ
  have hs2 : Sim E β s a { w with drawn := w.drawn + 1 } := ⟨hs.dfr, hs.sl, ⟨hs.hp.len, hs.hp.ob, hs.hp.flat, hs.hp.apart⟩, hs.ent, ⟨hs.st.le, hs.st.os, hs.st.tape, hs.st.output, hs.st.size, hs.st.block, hs.st.len, hs.st.old, hs.st.fresh⟩⟩
  refine ops_of_runW hback (fun β' a' w' hs' => let ⟨β2, t2, hk2, hs2⟩ := hK β' a' w' hs'; hQ .normal t2 β2 a' w' ⟨rfl, hk2⟩ hs2) (Region.linearise .any r t) r.size _ σ s β a _ hd (by simp) (by omega) (fun i => ?_) (fun i o ho hl => ?_) hok (fun p q hpq _ _ => hbef p q hpq) hrun hs2
  ·constructor
   ·intro hi
    refine ⟨hlt i hi, ?_⟩
    simp [Array.getD_eq_getD_getElem?, hlt i hi]
   ·rintro ⟨hi, _⟩
    simpa using hall i hi
  ·exfalso
   simp only [Array.getD_eq_getD_getElem?, Array.getElem?_replicate] at hl
   split at hl <;> cases hl
def denW (P : Program) (r : Array Oper) (G : S → Prop) : StD → Prop
 | .go l s c => c ∧ ∃ s', RunW P r l s s' ∧ G s'
 | .call f args d l s c => c ∧ ∃ res h', CallA P f args s.hp res h' ∧ ∃ s', RunW P r l (s.put d (some res) h') s' ∧ G s'
 | .fin s c => c ∧ G s
 | .bad => False
theorem stepW_den {P : Program} {r : Array Oper} {G : S → Prop} {l : List Nat} {s : S} {c : Prop} (h : denW P r G (stepD P r l s c)) : denW P r G (.go l s c) := by
 cases l with
 | nil => exact ⟨h.1, s, rfl, h.2⟩
 | cons i l =>
  simp only [stepD] at h
  split at h
  ·rename_i o ho
   split at h
   ·rename_i b hg
    cases b with
    | true =>
     unfold stepOpD at h
     dsimp only at h
     split at h
     ·rename_i x args at_ hop
      split at h
      ·rename_i f caps avs hx ha
       obtain ⟨hc, res, h', hcall, s', hrun, hG⟩ := h
       refine ⟨hc, s', ⟨_, ?_, hrun⟩, hG⟩
       unfold StepW
       rw [ho]
       dsimp only
       rw [hg]
       exact .inr ⟨x, args, at_, f, caps, avs, res, h', hop, hx, ha, hcall, rfl⟩
      ·exact h.elim
     ·split at h
      ·rename_i v hp d hx
       obtain ⟨⟨hc, hd⟩, s', hrun, hG⟩ := h
       refine ⟨hc, s', ⟨_, ?_, hrun⟩, hG⟩
       unfold StepW
       rw [ho]
       dsimp only
       rw [hg]
       exact .inl ⟨_, hx, hd, rfl⟩
      ·exact h.elim
    | false =>
     obtain ⟨hc, s', hrun, hG⟩ := h
     refine ⟨hc, s', ⟨_, ?_, hrun⟩, hG⟩
     unfold StepW
     rw [ho]
     dsimp only
     rw [hg]
   ·exact h.elim
  ·exact h.elim
theorem runW_den {P : Program} {r : Array Oper} {G : S → Prop} : ∀ (n : Nat) {x : StD}, denW P r G (runD P r n x) → denW P r G x
 | 0, x, h => h
 | n + 1, .go l s c, h => stepW_den (runW_den n h)
 | n + 1, .call .., h => h
 | n + 1, .fin .., h => h
 | n + 1, .bad, h => h
theorem den_drawW {P : Program} {E : Entry} {F : S → Prop} {id : Nat} {r : Array Oper} {k : List Item} {s : S} {c : Prop} (U : List (Nat × Nat)) (os : List (List Nat)) (hP : P.follows .mixedOrders = true) (hc : c) (hcov : coverW P r U os = true)
  (h : allDn (fun σ => denW P r (fun s' => den P E F (.go k s' True)) (.go σ s True)) os) : den P E F (.draw id r k s c) := by
 refine ⟨hc, den_mono (wp_drawnW hP hcov (K := fun s' => den P E F (.go k s' True)) fun σ hσ => let ⟨s', h1, h2⟩ := (allDn_mem h σ hσ).2; ⟨s', h1, fun β a w hs => ⟨β, s', h2, hs⟩⟩) fun e s' hk => ?_⟩
 obtain ⟨rfl, hk⟩ := hk
 exact hk.2
theorem den_callW {P : Program} {r : Array Oper} {G : S → Prop} {f : Nat} {avs : List AV} {d : Option Tmp} {l : List Nat} {s : S} {c : Prop} {args0 : List AV} {h0 h0' : Hp} {res0 : AV} (hc : c) (ct : CallA P f args0 h0 res0 h0') (ρ : Rho)
  (hm : avsM ρ args0 avs ∧ hpM ρ s.hp ρ h0) (hsep : sepB ρ h0 = true) (h : denW P r G (.go l (s.put d (some (renAV ρ s.hp.length res0)) (hpCall ρ h0 h0' s.hp)) True)) : denW P r G (.call f avs d l s c) := by
 obtain ⟨_, s', hrun, hG⟩ := h
 exact ⟨hc, _, _, callA_at ct ρ hm.1 hm.2 hsep, s', hrun, hG⟩
end
section
open Go.RowKit

end
section
open Go.RowKit

end
section
open Go.RowKit

def isT (T : Nat) (t : Operand) : Bool := match t with
 | .tmp i => i == T
 | _ => false
def isR (T : Nat) (a b : Code) : Bool := match a with
 | .region id _ _ => match b with
  | .cond _ _ _ => id + 1000 == T
  | _ => false
 | _ => false
def stopC (T : Nat) (c : Code) : Bool := match c with
 | .cond t _ _ => isT T t
 | .seq a b => isR T a b
 | _ => false
def stopK (T : Nat) (k : List Item) : Bool := match k with
 | .code c :: _ => stopC T c
 | _ => false
theorem isR_eq (T : Nat) (a b : Code) : isR T a b = match a with
 | .region id _ _ => match b with
  | .cond _ _ _ => id + 1000 == T
  | _ => false
 | _ => false := rfl
theorem isT_eq (T : Nat) (t : Operand) : isT T t = match t with
 | .tmp i => i == T
 | _ => false := rfl
theorem stopC_eq (T : Nat) (c : Code) : stopC T c = match c with
 | .cond t _ _ => isT T t
 | .seq a b => isR T a b
 | _ => false := rfl
theorem stopK_eq (T : Nat) (k : List Item) : stopK T k = match k with
 | .code c :: _ => stopC T c
 | _ => false := rfl
def runS (P : Program) (T : Nat) : Nat → St → St
 | 0, x => x
 | n + 1, .go k s c => match stopK T k with
  | true => .go k s c
  | false => runS P T n (stepG P k s c)
 | _ + 1, .fin s c => .fin s c
 | _ + 1, .call f a d k s c => .call f a d k s c
 | _ + 1, .lp b k s c => .lp b k s c
 | _ + 1, .hk N s c => .hk N s c
 | _ + 1, .draw id r k s c => .draw id r k s c
 | _ + 1, .gl r o l k s c => .gl r o l k s c
 | _ + 1, .bad => .bad
attribute [go_sem] runS isT_eq isR_eq stopC_eq stopK_eq
end
section
open Go.RowKit

end
section
open Go.RowKit

def qA (l : List Nat) : Rho := l.map fun n => some (n, none)
attribute [go_sem] qA
theorem qC {c : Prop} (h : c := by (try simp (disch := omega) only [go_sem, List.length_set, Nat.reduceEqDiff, Nat.reduceAdd, Nat.reduceSub, Int.reduceAdd, Int.reduceSub, Int.reduceToNat, Nat.reduceBEq]) <;> omega) : c := h
theorem qM {c : Prop} (h : c := by simp only [go_sem]; repeat' first | rfl | constructor | (rw [List.map_set]; rfl) | (simp [List.map_take, List.map_drop] <;> omega)) : c := h
theorem qX {p q : Prop} (h : q) (e : q → p := by intro h; (try simp (disch := omega) only [go_sem, Nat.reduceEqDiff, Nat.reduceAdd, Nat.reduceSub, Int.reduceAdd, Int.reduceSub, Int.reduceToNat, Nat.reduceBEq]); exact h) : p := e h
theorem qY {p : Prop} (e : p := by simp (disch := omega) only [go_sem, Nat.reduceEqDiff, Nat.reduceAdd, Nat.reduceSub, Int.reduceAdd, Int.reduceSub, Int.reduceToNat, Nat.reduceBEq]) : p := e
theorem qB {p c1 c2 : Prop} {q1 : c1 → Prop} {q2 : c2 → Prop} (h1 : ∀ h, q1 h) (h2 : ∀ h, q2 h) (e : (∀ h, q1 h) → (∀ h, q2 h) → p := by
 intro h1 h2; split <;> rename_i h <;> (try simp only [beq_true, beq_false, Bool.not_eq_true', Bool.not_eq_false'] at h) <;> simp (disch := omega) only [go_sem, Nat.reduceEqDiff, Nat.reduceAdd, Nat.reduceSub, Int.reduceAdd, Int.reduceSub, Int.reduceToNat, Nat.reduceBEq, h] <;> (try simp only [decide_eq_true_eq, decide_eq_false_iff_not, beq_iff_eq, beq_eq_false_iff_ne, bne_iff_ne, bne_eq_false_iff_eq, ne_eq, Decidable.not_not, Bool.and_eq_true, Bool.and_eq_false_iff, Bool.or_eq_true, Bool.or_eq_false_iff, Int.ofNat_lt, Int.ofNat_le, Bool.not_eq_eq_eq_not, Bool.not_true, Bool.not_false] at h) <;> (try simp (disch := omega) only [go_sem, Nat.reduceEqDiff, Nat.reduceAdd, Nat.reduceSub, Int.reduceAdd, Int.reduceSub, Int.reduceToNat, Nat.reduceBEq]) <;> first | exact h1 h | exact h2 h) : p := e h1 h2
section
variable {P : Program} {E : Entry} {F : S → Prop} {c q : Prop}
theorem qR {x : St} (h : q) (e : q → den P E F (run P 400 x) := by intro h; (try simp (disch := omega) only [go_sem, Nat.reduceEqDiff, Nat.reduceAdd, Nat.reduceSub, Int.reduceAdd, Int.reduceSub, Int.reduceToNat, Nat.reduceBEq]); exact h) : den P E F x := run_den 400 (e h)
theorem qG {x : St} (h : q) (e : q → den P E F (run P 400 x) := by intro h; (try simp (disch := omega) only [go_sem, Nat.reduceEqDiff, Nat.reduceAdd, Nat.reduceSub, Int.reduceAdd, Int.reduceSub, Int.reduceToNat, Nat.reduceBEq]); exact h) (hc : c := by (try simp (disch := omega) only [go_sem, List.length_set, Nat.reduceEqDiff, Nat.reduceAdd, Nat.reduceSub, Int.reduceAdd, Int.reduceSub, Int.reduceToNat, Nat.reduceBEq]) <;> omega) : c ∧ den P E F x := ⟨hc, run_den 400 (e h)⟩
theorem qE {f : FuncId} {fn : Func} {C : Code} (hf : P.funcs[f]? = some fn) {nt : Nat} {rs : Array ResultVar} (hn : fn.ntmps = nt) (hr : fn.results = rs) {args : List AV} {h h' : Hp} {res : AV} {Q : Entry → Prop} (H : ∀ E : Entry, E.h.length = h.length → Q E)
  (hname : (fn.name == "runtime.NumGoroutine") = false := by kernel_rfl) (hb : fn.body = some C := by rfl)
  (e : ∀ E : Entry, Q E → den P E (EndF P rs.toList h.length res h') (run P 400 (.go [.code C] ⟨initS nt args, h⟩ True)) := by intro E h; simp (disch := omega) only [go_sem, Nat.reduceEqDiff, Nat.reduceAdd, Nat.reduceSub, Int.reduceAdd, Int.reduceSub, Int.reduceToNat, Nat.reduceBEq]; exact h) : CallA P f args h res h' := by
 subst hn; subst hr; exact callA_of hf hname hb fun E hE => run_den 400 (e E (H E hE))
theorem qF {rs : List ResultVar} {n0 : Nat} {res v : AV} {h' : Hp} {s : S} (ρ : Rho) (hr : aRes P s rs = some v := by simp only [go_sem]; rfl) (hid : idB n0 0 ρ = true := by rfl) (hsep : sepB ρ h' = true := by rfl) (hm : avM ρ res v ∧ hpM ρ s.hp ρ h' := by simp (disch := omega) only [go_sem, Nat.reduceEqDiff, Nat.reduceAdd, Nat.reduceSub, Int.reduceAdd, Int.reduceSub, Int.reduceToNat, Nat.reduceBEq])
  (hc : c := by (try simp (disch := omega) only [go_sem, List.length_set, Nat.reduceEqDiff, Nat.reduceAdd, Nat.reduceSub, Int.reduceAdd, Int.reduceSub, Int.reduceToNat, Nat.reduceBEq]) <;> omega) : den P E (EndF P rs n0 res h') (.fin s c) := den_fin ρ hc v hr hid hsep hm
theorem qJ {rs : List ResultVar} {n0 : Nat} {res v : AV} {h' : Hp} {s : S} (ρ : Rho) (h : q) (hr : aRes P s rs = some v := by simp only [go_sem]; rfl) (hid : idB n0 0 ρ = true := by rfl) (hsep : sepB ρ h' = true := by rfl) (hm : q → avM ρ res v ∧ hpM ρ s.hp ρ h' := by intro h; simp (disch := omega) only [go_sem, Nat.reduceEqDiff, Nat.reduceAdd, Nat.reduceSub, Int.reduceAdd, Int.reduceSub, Int.reduceToNat, Nat.reduceBEq]; exact h)
  (hc : c := by (try simp (disch := omega) only [go_sem, List.length_set, Nat.reduceEqDiff, Nat.reduceAdd, Nat.reduceSub, Int.reduceAdd, Int.reduceSub, Int.reduceToNat, Nat.reduceBEq]) <;> omega) : den P E (EndF P rs n0 res h') (.fin s c) := den_fin ρ hc v hr hid hsep (hm h)
theorem qK {f : FuncId} {avs : List AV} {d : Option Tmp} {k : List Item} {s : S} {args0 : List AV} {h0 h0' : Hp} {res0 : AV} (ct : CallA P f args0 h0 res0 h0') (ρ : Rho) (h : q)
  (e : q → den P E F (run P 400 (.go k (s.put d (some (renAV ρ s.hp.length res0)) (hpCall ρ h0 h0' s.hp)) True)) := by intro h; simp (disch := omega) only [go_sem, Nat.reduceEqDiff, Nat.reduceAdd, Nat.reduceSub, Int.reduceAdd, Int.reduceSub, Int.reduceToNat, Nat.reduceBEq]; exact h)
  (hm : avsM ρ args0 avs ∧ hpM ρ s.hp ρ h0 := by simp only [go_sem]; repeat' first | rfl | constructor | (rw [List.map_set]; rfl) | (simp [List.map_take, List.map_drop] <;> omega)) (hsep : sepB ρ h0 = true := by rfl)
  (hc : c := by (try simp (disch := omega) only [go_sem, List.length_set, Nat.reduceEqDiff, Nat.reduceAdd, Nat.reduceSub, Int.reduceAdd, Int.reduceSub, Int.reduceToNat, Nat.reduceBEq]) <;> omega) : den P E F (.call f avs d k s c) := den_call hc ct ρ hm hsep (run_den 400 (e h))
theorem qKD {r : Array Oper} {G : S → Prop} {f : Nat} {avs : List AV} {d : Option Tmp} {l : List Nat} {s : S} {args0 : List AV} {h0 h0' : Hp} {res0 : AV} (ct : CallA P f args0 h0 res0 h0') (ρ : Rho) (h : q)
  (e : q → denD P r G (runD P r 400 (.go l (s.put d (some (renAV ρ s.hp.length res0)) (s.hp ++ renHp ρ s.hp.length (h0'.drop h0.length))) True)) := by intro h; simp (disch := omega) only [go_sem, Nat.reduceEqDiff, Nat.reduceAdd, Nat.reduceSub, Int.reduceAdd, Int.reduceSub, Int.reduceToNat, Nat.reduceBEq]; exact h)
  (hm : avsM ρ args0 avs ∧ hpM ρ s.hp ρ h0 := by simp only [go_sem]; repeat' first | rfl | constructor | (rw [List.map_set]; rfl) | (simp [List.map_take, List.map_drop] <;> omega)) (hsep : sepB ρ h0 = true := by rfl) (hno : noOwn h0 = true := by rfl)
  (hc : c := by (try simp (disch := omega) only [go_sem, List.length_set, Nat.reduceEqDiff, Nat.reduceAdd, Nat.reduceSub, Int.reduceAdd, Int.reduceSub, Int.reduceToNat, Nat.reduceBEq]) <;> omega) : denD P r G (.call f avs d l s c) := den_callD hc ct ρ hm hsep hno (runD_den 400 (e h))
theorem qD {id : Nat} {r : Array Oper} {k : List Item} {s : S} (σ : List Nat) (h : q)
  (e : q → denD P r (fun s' => den P E F (.go k s' True)) (runD P r 400 (.go σ s True)) := by intro h; simp (disch := omega) only [go_sem, Nat.reduceEqDiff, Nat.reduceAdd, Nat.reduceSub, Int.reduceAdd, Int.reduceSub, Int.reduceToNat, Nat.reduceBEq]; exact h)
  (hP : P.follows .mixedOrders = true := by kernel_rfl) (hcov : coverB P r [] [σ] = true := by kernel_rfl) (hc : c := by (try simp (disch := omega) only [go_sem, List.length_set, Nat.reduceEqDiff, Nat.reduceAdd, Nat.reduceSub, Int.reduceAdd, Int.reduceSub, Int.reduceToNat, Nat.reduceBEq]) <;> omega) : den P E F (.draw id r k s c) := den_draw1 σ hP hc hcov (runD_den 400 (e h))
theorem qN {ι : Type} {N : S → Prop} {n0 : Nat} {s1 : S} {A B : ι → Prop} {mk : ι → S} (hN : ∀ (s' : S) (j : ι) (ρ : Rho), A j → B j → WeakS ρ n0 (mk j) s' → N s') (j : ι) (ρ : Rho) (hJ : A j) (hμ : B j := by (try dsimp only); omega)
  (h1 : idB n0 0 ρ = true := by rfl) (h2 : sepB ρ (mk j).hp = true := by rfl) (hm : slM ρ (mk j).sl s1.sl ∧ hpM ρ s1.hp ρ (mk j).hp := by simp (disch := omega) only [go_sem, Nat.reduceEqDiff, Nat.reduceAdd, Nat.reduceSub, Int.reduceAdd, Int.reduceSub, Int.reduceToNat, Nat.reduceBEq])
  (hc : c := by (try simp (disch := omega) only [go_sem, List.length_set, Nat.reduceEqDiff, Nat.reduceAdd, Nat.reduceSub, Int.reduceAdd, Int.reduceSub, Int.reduceToNat, Nat.reduceBEq]) <;> omega) : c ∧ N s1 := ⟨hc, hN _ j ρ hJ hμ (weak_mk h1 h2 hm)⟩
end
end
section
open Go.ChangeShapes Go.WideShapes Go.ChangeAt Go.RowKit

abbrev I64 (n : Int) : Prop := -9223372036854775808 ≤ n ∧ n ≤ 9223372036854775807

inductive L0 where
 | int | bool | str | byte
deriving DecidableEq
inductive L1 where
 | one (l : L0) | sl (ls : List L0)
deriving DecidableEq

def L1.plain : L1 → Option L0
 | .one l => some l
 | .sl _ => none
def plains : List L1 → Option (List L0)
 | [] => some []
 | .one l :: r => (plains r).map (l :: ·)
 | .sl _ :: _ => none

def flatFs (P : Program) (g : TypeId → Option (List L1)) : List Field → Nat → Option (List L1)
 | [], _ => some []
 | f :: r, o =>
  if f.offset = o then
   match g f.type with
   | some l => if P.cellsOf f.type = l.length then (flatFs P g r (o + l.length)).map (l ++ ·) else none
   | none => none
  else none
def flat (P : Program) : Nat → TypeId → Option (List L1)
 | 0, _ => none
 | n + 1, t =>
  match P.underlying t with
  | some (.int .i64) => some [.one .int]
  | some (.int .u8) => some [.one .byte]
  | some .bool => some [.one .bool]
  | some .string => some [.one .str]
  | some (.struct fs) => match flatFs P (flat P n) fs.toList 0 with
   | some l => if P.cellsOf t = l.length then some l else none
   | none => none
  | some (.slice e) =>
   match flat P n e with
   | some l => match plains l with
    | some l0 => if P.cellsOf e = l0.length ∧ 0 < l0.length then some [.sl l0] else none
    | none => none
   | none => none
  | _ => none

def See0 : L0 → Value → Prop
 | .int, v => ∃ n, v = .int .i64 n ∧ I64 n
 | .byte, v => ∃ n, v = .int .u8 n ∧ 0 ≤ n ∧ n ≤ 255
 | .bool, v => ∃ b, v = .bool b
 | .str, v => ∃ s : ByteArray, v = .string s ∧ s.size ≤ maxLen
def See0s : List L0 → List Value → Prop
 | [], cs => cs = []
 | l :: r, cs => ∃ v cs', cs = v :: cs' ∧ See0 l v ∧ See0s r cs'
def SeeSl (w : World) (ls : List L0) (v : Value) : Prop :=
 ∃ A n c, v = .slice A n c ∧ n ≤ c ∧ c ≤ maxLen ∧
  (c = 0 ∨ ∃ b off arr T fz, A = some ⟨b, off, none⟩ ∧ w.heap[b]? = some (.cells arr T fz) ∧ ∀ i, i < n → ∃ cs, See0s ls cs ∧ cs.length = ls.length ∧ ∀ (j : Nat) (v : Value), cs[j]? = some v → arr[off + i * ls.length + j]? = some v)
def See1 (w : World) : L1 → Value → Prop
 | .one l, v => See0 l v
 | .sl ls, v => SeeSl w ls v
def See1s (w : World) : List L1 → List Value → Prop
 | [], cs => cs = []
 | l :: r, cs => ∃ v cs', cs = v :: cs' ∧ See1 w l v ∧ See1s w r cs'

theorem See1s.length {w : World} : ∀ {l : List L1} {cs : List Value}, See1s w l cs → cs.length = l.length
 | [], _, h => by unfold See1s at h; subst h; rfl
 | _ :: r, _, h => by obtain ⟨v, cs', rfl, _, h'⟩ := h; simp [h'.length]
theorem See0s.length : ∀ {l : List L0} {cs : List Value}, See0s l cs → cs.length = l.length
 | [], _, h => by unfold See0s at h; subst h; rfl
 | _ :: r, _, h => by obtain ⟨v, cs', rfl, _, h'⟩ := h; simp [h'.length]
theorem See1s.append {w : World} : ∀ {l : List L1} {k : List L1} {cs ds : List Value}, See1s w l cs → See1s w k ds → See1s w (l ++ k) (cs ++ ds)
 | [], _, _, _, h, h' => by unfold See1s at h; subst h; exact h'
 | _ :: r, _, _, _, h, h' => by obtain ⟨v, cs', rfl, hv, hr⟩ := h; exact ⟨v, _, rfl, hv, hr.append h'⟩
theorem See1s.plain {w : World} : ∀ {l : List L1} {l0 : List L0} {cs : List Value}, plains l = some l0 → See1s w l cs → See0s l0 cs
 | [], l0, _, h, h' => by simp [plains] at h; subst h; exact h'
 | .one a :: r, l0, _, h, h' => by
  simp only [plains, Option.map_eq_some_iff] at h
  obtain ⟨r0, hr, rfl⟩ := h
  obtain ⟨v, cs', rfl, hv, hr'⟩ := h'
  exact ⟨v, cs', rfl, hv, hr'.plain hr⟩
 | .sl _ :: _, _, _, h, _ => by simp [plains] at h

section
variable {H : Type} {enc : TypeId × Value → H} {P : Program} {w : World} {base : Nat} {held : Bool}
abbrev spareAll : Nat → Bool := fun _ => true

theorem wf_i64 {n : Int} (h : (Lit.int .i64 n).wf = true) : I64 n := by
 have := bounds_i64 h
 exact this

theorem see_of_flatFs {g : TypeId → Option (List L1)} {n : Nat} (hg : ∀ t l cs x, g t = some l → DataW.trod enc P w base spareAll held n t cs = some x → See1s w l cs) :
  ∀ (fs : List Field) (o : Nat) (l : List L1) (cs : List Value), flatFs P g fs o = some l → cs.length = o + l.length →
   (∀ (i : Nat) (f : Field), fs[i]? = some f → ∃ x, DataW.trod enc P w base spareAll held n f.type ((cs.drop f.offset).take (P.cellsOf f.type)) = some x) → See1s w l (cs.drop o)
 | [], o, l, cs, h, hl, _ => by
  simp only [flatFs, Option.some.injEq] at h
  subst h
  simp only [List.length_nil, Nat.add_zero] at hl
  simp [See1s, hl]
 | f :: r, o, l, cs, h, hl, hf => by
  simp only [flatFs] at h
  split at h
  ·rename_i ho
   split at h
   ·rename_i l1 hl1
    split at h
    ·rename_i hc
     simp only [Option.map_eq_some_iff] at h
     obtain ⟨l2, h2, rfl⟩ := h
     obtain ⟨x, hx⟩ := hf 0 f rfl
     have s1 := hg _ _ _ _ hl1 hx
     have s2 := see_of_flatFs hg r (o + l1.length) l2 cs h2 (by rw [hl]; simp; omega) (fun i f' hi => hf (i + 1) f' hi)
     rw [ho, hc] at s1
     have e : cs.drop o = (cs.drop o).take l1.length ++ cs.drop (o + l1.length) := by
      rw [← List.drop_drop, List.take_append_drop]
     rw [e]
     exact s1.append s2
    ·cases h
   ·cases h
  ·cases h

theorem see_of_flat : ∀ (n fuel : Nat) (t : TypeId) (l : List L1) (cs : List Value) (x : DataW H × List MemPlace), flat P n t = some l →
  DataW.trod enc P w base spareAll held fuel t cs = some x → See1s w l cs := by
 intro n
 induction n with
 | zero => intro fuel t l cs x h; simp [flat] at h
 | succ n ih =>
  intro fuel t l cs x h ht
  unfold flat at h
  split at h
  ·rename_i hu
   simp only [Option.some.injEq] at h; subst h
   obtain ⟨k, rfl, rfl, hw⟩ := DataW.trod_int hu ht
   exact ⟨_, [], rfl, ⟨k, rfl, wf_i64 hw⟩, rfl⟩
  ·rename_i hu
   simp only [Option.some.injEq] at h; subst h
   obtain ⟨k, rfl, rfl, hw⟩ := DataW.trod_int hu ht
   exact ⟨_, [], rfl, ⟨k, rfl, bounds_u8 hw⟩, rfl⟩
  ·rename_i hu
   simp only [Option.some.injEq] at h; subst h
   obtain ⟨b, rfl, rfl⟩ := DataW.trod_bool hu ht
   exact ⟨_, [], rfl, ⟨b, rfl⟩, rfl⟩
  ·rename_i hu
   simp only [Option.some.injEq] at h; subst h
   obtain ⟨s, rfl, rfl, hs⟩ := DataW.trod_string hu ht
   exact ⟨_, [], rfl, ⟨s, rfl, hs⟩, rfl⟩
  ·rename_i fs hu
   obtain ⟨xs, m, rfl, rfl, hlen, hxl, hi⟩ := DataW.trod_struct hu ht
   split at h
   ·rename_i l' hl'
    split at h
    ·rename_i hcl
     simp only [Option.some.injEq] at h; subst h
     have hl : cs.length = 0 + l'.length := by omega
     have := see_of_flatFs (enc := enc) (P := P) (w := w) (base := base) (held := held) (n := m) (fun t l cs x h1 h2 => ih _ t l cs x h1 h2) fs.toList 0 l' cs hl' hl (fun i f hf => by
      have hf' : fs[i]? = some f := by simpa using hf
      have hlt : i < xs.length := by rw [hxl]; exact (Array.getElem?_eq_some_iff.1 hf').1
      exact ⟨xs[i], by rw [hi i f hf', List.getElem?_eq_getElem hlt]⟩)
     simpa using this
    ·cases h
   ·cases h
  ·rename_i e hu
   split at h
   ·rename_i l1 hl1
    split at h
    ·rename_i l0 hl0
     split at h
     ·rename_i hc
      simp only [Option.some.injEq] at h; subst h
      rcases DataW.trod_slice hu ht with ⟨rfl, _⟩ | ⟨a, len, cap, elems, rest, m, rfl, rfl, _, _, h1, h2, h3, h4, h5, _⟩
      ·exact ⟨_, [], rfl, ⟨none, 0, 0, rfl, Nat.le_refl _, by unfold maxLen; omega, .inl rfl⟩, rfl⟩
      ·refine ⟨_, [], rfl, ⟨some a, len, cap, rfl, h1, h2, ?_⟩, rfl⟩
       by_cases hz : cap = 0
       ·exact .inl hz
       ·right
        obtain ⟨hrl, hrest⟩ := h5 rfl
        have here : ∀ (k : Nat) (o : Option (DataW H × List MemPlace)), (w.cells? base (a.add (k * P.cellsOf e)) (P.cellsOf e)).bind (DataW.trod enc P w base spareAll held m e) = o → o.isSome = true →
          ∃ ds, See0s l0 ds ∧ ds.length = l0.length ∧ ∀ j, j < l0.length → w.cell? ((a.add (k * l0.length)).add j) = ds[j]? := by
         intro k o ho hs
         cases o with
         | none => cases hs
         | some y =>
          simp only [Option.bind_eq_some_iff] at ho
          obtain ⟨ds, hd, hd2⟩ := ho
          obtain ⟨_, hdl, hdc⟩ := World.cells?_some hd
          rw [hc.1] at hdl hdc
          exact ⟨ds, (ih _ _ _ _ _ hl1 hd2).plain hl0, hdl, hdc⟩
        have key : ∀ i, i < len → ∃ ds, See0s l0 ds ∧ ds.length = l0.length ∧ ∀ j, j < l0.length → w.cell? ((a.add (i * l0.length)).add j) = ds[j]? := by
         intro i hi
         exact here i _ (h4 i hi) (by rw [List.getElem?_eq_getElem (by omega)]; rfl)
        have key0 : ∃ ds : List Value, ds.length = l0.length ∧ ∀ j, j < l0.length → w.cell? ((a.add (0 * l0.length)).add j) = ds[j]? := by
         by_cases hl0' : 0 < len
         ·obtain ⟨ds, _, h6, h7⟩ := key 0 hl0'
          exact ⟨ds, h6, h7⟩
         ·obtain ⟨ds, _, h6, h7⟩ := here (len + 0) _ (hrest 0 (by omega)) (by rw [List.getElem?_eq_getElem (by omega)]; rfl)
          have e0 : len + 0 = 0 := by omega
          rw [e0] at h7
          exact ⟨ds, h6, h7⟩
        obtain ⟨ds0, hd0, hc0⟩ := key0
        have hcell := hc0 0 hc.2
        rw [List.getElem?_eq_getElem (by omega)] at hcell
        obtain ⟨b, off, spot⟩ := a
        have hspot : spot = none := by simpa [Addr.add] using World.cell?_spot hcell
        subst hspot
        simp only [add_plain] at hcell
        have hblk : ∃ arr T fz, w.heap[b]? = some (.cells arr T fz) := by
         unfold World.cell? at hcell
         split at hcell
         ·rename_i hh
          exact ⟨_, _, _, hh⟩
         ·cases hcell
        obtain ⟨arr, T, fz, hh⟩ := hblk
        refine ⟨b, off, arr, T, fz, rfl, hh, ?_⟩
        intro i hi
        obtain ⟨ds, hs, hdl, hdc⟩ := key i hi
        refine ⟨ds, hs, hdl, fun j v hv => ?_⟩
        have hj : j < l0.length := by rw [← hdl]; exact (List.getElem?_eq_some_iff.1 hv).1
        have := hdc j hj
        simp only [add_plain] at this
        have hcv : w.cell? ⟨b, off + i * l0.length + j, none⟩ = arr[off + i * l0.length + j]? := by simp [World.cell?, hh]
        rw [← hcv, this, hv]
     ·cases h
    ·cases h
   ·cases h
  ·cases h
end
end
section
open Go.ChangeShapes Go.WideShapes Go.ChangeAt Go.RowKit


def intC (n : Int) : List Sc := [.int .i64 n]
def byteC (n : UInt8) : List Sc := [.int .u8 n.toNat]
def FlatEnc {α : Type} (enc : α → List Sc) : Prop := ∀ x, flatC (enc x) = true
theorem flatL_map {α : Type} {enc : α → List Sc} (h : FlatEnc enc) (l : List α) : FlatL (l.map enc) := by
 intro c hc
 obtain ⟨x, _, rfl⟩ := List.mem_map.1 hc
 exact h x
theorem map_get {α : Type} {enc : α → List Sc} {l : List α} {k : Nat} (h : k < l.length) : (l.map enc)[k]? = some (enc l[k]) := by simp [h]
theorem exists_list {α : Type} (n : Nat) (R : Nat → α → Prop) (h : ∀ i, i < n → ∃ x, R i x) : ∃ xs : List α, xs.length = n ∧ ∀ i x, xs[i]? = some x → R i x := by
 induction n with
 | zero => exact ⟨[], rfl, fun i x h => by simp at h⟩
 | succ n ih =>
  obtain ⟨xs, hl, hx⟩ := ih (fun i hi => h i (by omega))
  obtain ⟨x, hn⟩ := h n (by omega)
  refine ⟨xs ++ [x], by simp [hl], fun i y hy => ?_⟩
  by_cases hi : i < n
  ·rw [List.getElem?_append_left (by omega)] at hy
   exact hx i y hy
  ·rw [List.getElem?_append_right (by omega)] at hy
   have : i - xs.length = 0 := by
    have h1 := (List.getElem?_eq_some_iff.1 hy).1
    simp at h1; omega
   rw [this] at hy
   simp at hy
   have e : i = n := by omega
   subst e; subst hy
   exact hn
structure SlIn {α : Type} (w : World) (enc : α → List Sc) (sz : Nat) (v : Value) (xs : List α) (p : Option Pl) : Prop where
 val : ∀ (β : Be) (o : Nat), β[o]? = some p → ScR β (.sl o 0 xs.length) v
 ob : ∀ (β : Be) (ty : TypeId), ObR β w p ⟨xs.map enc, sz, ty, false, true⟩
theorem see_slx {α : Type} {w : World} (enc : α → List Sc) (ls : List L0) (W : α → Prop) (hf : FlatEnc enc) (conv : ∀ cs, See0s ls cs → ∃ x, L2 (ScR []) (enc x) cs ∧ W x) {v : Value} (h : SeeSl w ls v) :
  ∃ (xs : List α) (p : Option Pl), SlIn w enc ls.length v xs p ∧ xs.length ≤ maxLen ∧ ∀ x ∈ xs, W x := by
 obtain ⟨A, n, c, rfl, hl, hm, hz⟩ := h
 rcases hz with rfl | ⟨b, off, arr, T, fz, rfl, hh, hi⟩
 ·have hn : n = 0 := by omega
  subst hn
  exact ⟨[], none, ⟨fun β o _ => ⟨A, 0, rfl, Nat.le_refl _, Nat.zero_le _, .inl rfl⟩, fun β ty => rfl⟩, Nat.zero_le _, by simp⟩
 ·obtain ⟨xs, rfl, hx⟩ := exists_list n (fun i x => W x ∧ ∃ cs, L2 (ScR []) (enc x) cs ∧ cs.length = ls.length ∧ ∀ (j : Nat) (v : Value), cs[j]? = some v → arr[off + i * ls.length + j]? = some v) (fun i h => by
   obtain ⟨cs, hs, hl, hc⟩ := hi i h
   obtain ⟨x, hr, hw⟩ := conv cs hs
   exact ⟨x, hw, cs, hr, hl, hc⟩)
  refine ⟨xs, some ⟨b, off, ls.length, c * ls.length⟩, ⟨fun β o ho => ⟨_, c, rfl, hl, hm, .inr ⟨_, ho, by simp, by simp⟩⟩, fun β ty => ⟨rfl, arr, T, fz, hh, ?_, fun h => by cases h⟩⟩, by omega, fun x h => ?_⟩
  ·intro k e hk
   simp only [List.getElem?_map, Option.map_eq_some_iff] at hk
   obtain ⟨x, hx', rfl⟩ := hk
   obtain ⟨_, cs, hr, hcl, hc⟩ := hx k x hx'
   refine ⟨hr.length.trans hcl, fun j s hs => ?_⟩
   obtain ⟨v, hv, hrv⟩ := hr.get hs
   exact ⟨v, hc j v hv, flat_R (flatC_mem.1 (hf x) s (List.mem_of_getElem? hs)) hrv⟩
  ·obtain ⟨i, hi, rfl⟩ := List.getElem_of_mem h
   exact (hx i _ (List.getElem?_eq_getElem hi)).1
theorem hsim_ro {β : Be} {h : Hp} {w : World} (hl : β.length = h.length) (hob : ∀ (o : Nat) (ob : AObj) (p : Option Pl), h[o]? = some (some ob) → β[o]? = some p → ob.own = false ∧ ObR β w p ob ∧ FlatL ob.cs) : HSim β h w := by
 have bp : ∀ {o : Nat} {x : Option AObj}, h[o]? = some x → ∃ p, β[o]? = some p := fun {o x} hx => ⟨β[o]'(by rw [hl]; exact (List.getElem?_eq_some_iff.1 hx).1), List.getElem?_eq_getElem _⟩
 refine ⟨hl, fun o ob ho => ?_, fun o ob ho _ => ?_, fun o o' ob ob' p p' ho _ hown _ _ _ => ?_⟩
 ·obtain ⟨p, hp⟩ := bp ho
  exact ⟨p, hp, (hob o ob p ho hp).2.1⟩
 ·obtain ⟨p, hp⟩ := bp ho
  exact (hob o ob p ho hp).2.2
 ·obtain ⟨q, hq⟩ := bp ho
  rw [(hob o ob q ho hq).1] at hown
  cases hown
def RoL (β : Be) (w : World) : Be → Hp → Prop
 | [], [] => True
 | p :: l, some ob :: h => (ob.own = false ∧ ObR β w p ob ∧ FlatL ob.cs) ∧ RoL β w l h
 | _, _ => False
theorem roL_get {β : Be} {w : World} : ∀ {l : Be} {h : Hp}, RoL β w l h → l.length = h.length ∧ ∀ (o : Nat) (ob : AObj) (p : Option Pl), h[o]? = some (some ob) → l[o]? = some p → ob.own = false ∧ ObR β w p ob ∧ FlatL ob.cs
 | [], [], _ => ⟨rfl, fun o ob p h => by simp at h⟩
 | q :: l, some x :: h, hr => by
  obtain ⟨h1, h2⟩ := roL_get hr.2
  refine ⟨by simp [h1], fun o ob p ho hp => ?_⟩
  cases o with
  | zero =>
   simp only [List.getElem?_cons_zero, Option.some.injEq] at ho hp
   subst ho; subst hp
   exact hr.1
  | succ o => exact h2 o ob p (by simpa using ho) (by simpa using hp)
 | [], _ :: _, h => h.elim
 | _ :: _, [], h => h.elim
 | _ :: _, none :: _, h => h.elim
theorem hsim_roL {β : Be} {w : World} {h : Hp} (hr : RoL β w β h) : HSim β h w := hsim_ro (roL_get hr).1 (roL_get hr).2
structure RoadD where
 own : Int
 far : Int
 port : Int
deriving DecidableEq, Inhabited
def RoadD.cs (x : RoadD) : List Sc := [.int .i64 x.own, .int .i64 x.far, .int .i64 x.port]
def RoadD.wf (x : RoadD) : Prop := I64 x.own ∧ I64 x.far ∧ I64 x.port
def RoadD.ls : List L0 := [.int, .int, .int]
theorem RoadD.flat : FlatEnc RoadD.cs := fun _ => rfl
structure AddrD where
 id : Int
 addr : Int
 spare : Bool
 told : Bool
deriving DecidableEq, Inhabited
def AddrD.cs (x : AddrD) : List Sc := [.int .i64 x.id, .int .i64 x.addr, .bo x.spare, .bo x.told]
def AddrD.wf (x : AddrD) : Prop := I64 x.id ∧ I64 x.addr
def AddrD.ls : List L0 := [.int, .int, .bool, .bool]
theorem AddrD.flat : FlatEnc AddrD.cs := fun _ => rfl
structure PolicyD where
 kind : Int
 many : Int
deriving DecidableEq, Inhabited
def PolicyD.cs (x : PolicyD) : List Sc := [.int .i64 x.kind, .int .i64 x.many]
def PolicyD.wf (x : PolicyD) : Prop := I64 x.kind ∧ I64 x.many
def PolicyD.ls : List L0 := [.int, .int]
theorem PolicyD.flat : FlatEnc PolicyD.cs := fun _ => rfl
structure BucketD where
 rate : Int
 burst : Int
 cur : Int
deriving DecidableEq, Inhabited
def BucketD.cs (x : BucketD) : List Sc := [.int .i64 x.rate, .int .i64 x.burst, .int .i64 x.cur]
def BucketD.wf (x : BucketD) : Prop := I64 x.rate ∧ I64 x.burst ∧ I64 x.cur
def BucketD.ls : List L0 := [.int, .int, .int]
theorem BucketD.flat : FlatEnc BucketD.cs := fun _ => rfl
structure HalfD where
 road : RoadD
 theirs : Int
 mine : Int
 give : Int
 take : Int
 till : Int
deriving DecidableEq, Inhabited
def HalfD.cs (x : HalfD) : List Sc := [.int .i64 x.road.own, .int .i64 x.road.far, .int .i64 x.road.port, .int .i64 x.theirs, .int .i64 x.mine, .int .i64 x.give, .int .i64 x.take, .int .i64 x.till]
def HalfD.wf (x : HalfD) : Prop := I64 x.road.own ∧ I64 x.road.far ∧ I64 x.road.port ∧ I64 x.theirs ∧ I64 x.mine ∧ I64 x.give ∧ I64 x.take ∧ I64 x.till
def HalfD.ls : List L0 := [.int, .int, .int, .int, .int, .int, .int, .int]
theorem HalfD.flat : FlatEnc HalfD.cs := fun _ => rfl
structure TagD where
 kind : Int
 one : Int
 two : Int
 a : Int
 b : Int
deriving DecidableEq, Inhabited
def TagD.cs (x : TagD) : List Sc := [.int .i64 x.kind, .int .i64 x.one, .int .i64 x.two, .int .i64 x.a, .int .i64 x.b]
def TagD.wf (x : TagD) : Prop := I64 x.kind ∧ I64 x.one ∧ I64 x.two ∧ I64 x.a ∧ I64 x.b
def TagD.ls : List L0 := [.int, .int, .int, .int, .int]
theorem TagD.flat : FlatEnc TagD.cs := fun _ => rfl
structure LetterD where
 kind : Int
 frm : Int
 to : Int
 port : Int
 key : Int
 token : Int
 nonce : Int
 give : Int
 sgn : Int
 tag : TagD
 id : Int
 addr : Int
 spare : Bool
 pos : Int
 text : List UInt8
deriving DecidableEq, Inhabited
def LetterD.cs (x : LetterD) : List Sc := [.int .i64 x.kind, .int .i64 x.frm, .int .i64 x.to, .int .i64 x.port, .int .i64 x.key, .int .i64 x.token, .int .i64 x.nonce, .int .i64 x.give, .int .i64 x.sgn, .int .i64 x.tag.kind, .int .i64 x.tag.one, .int .i64 x.tag.two, .int .i64 x.tag.a, .int .i64 x.tag.b, .int .i64 x.id, .int .i64 x.addr, .bo x.spare, .int .i64 x.pos, .st x.text]
def LetterD.wf (x : LetterD) : Prop := I64 x.kind ∧ I64 x.frm ∧ I64 x.to ∧ I64 x.port ∧ I64 x.key ∧ I64 x.token ∧ I64 x.nonce ∧ I64 x.give ∧ I64 x.sgn ∧ I64 x.tag.kind ∧ I64 x.tag.one ∧ I64 x.tag.two ∧ I64 x.tag.a ∧ I64 x.tag.b ∧ I64 x.id ∧ I64 x.addr ∧ I64 x.pos ∧ x.text.length ≤ maxLen
def LetterD.ls : List L0 := [.int, .int, .int, .int, .int, .int, .int, .int, .int, .int, .int, .int, .int, .int, .int, .int, .bool, .int, .str]
theorem LetterD.flat : FlatEnc LetterD.cs := fun _ => rfl
structure SubD where
 road : RoadD
 state : Int
 spare : Bool
 mine : Int
 theirs : Int
 give : Int
 take : Int
 tries : Int
deriving DecidableEq, Inhabited
def SubD.cs (x : SubD) : List Sc := [.int .i64 x.road.own, .int .i64 x.road.far, .int .i64 x.road.port, .int .i64 x.state, .bo x.spare, .int .i64 x.mine, .int .i64 x.theirs, .int .i64 x.give, .int .i64 x.take, .int .i64 x.tries]
def SubD.wf (x : SubD) : Prop := I64 x.road.own ∧ I64 x.road.far ∧ I64 x.road.port ∧ I64 x.state ∧ I64 x.mine ∧ I64 x.theirs ∧ I64 x.give ∧ I64 x.take ∧ I64 x.tries
def SubD.ls : List L0 := [.int, .int, .int, .int, .bool, .int, .int, .int, .int, .int]
theorem SubD.flat : FlatEnc SubD.cs := fun _ => rfl
structure PieceD where
 pos : Int
 text : List UInt8
deriving DecidableEq, Inhabited
def PieceD.cs (x : PieceD) : List Sc := [.int .i64 x.pos, .st x.text]
def PieceD.wf (x : PieceD) : Prop := I64 x.pos ∧ x.text.length ≤ maxLen
def PieceD.ls : List L0 := [.int, .str]
theorem PieceD.flat : FlatEnc PieceD.cs := fun _ => rfl
structure OutD where
 text : List UInt8
 base : Int
 sent : Int
 room : Int
deriving DecidableEq, Inhabited
def OutD.cs (x : OutD) : List Sc := [.st x.text, .int .i64 x.base, .int .i64 x.sent, .int .i64 x.room]
def OutD.wf (x : OutD) : Prop := x.text.length ≤ maxLen ∧ I64 x.base ∧ I64 x.sent ∧ I64 x.room
def OutD.ls : List L0 := [.str, .int, .int, .int]
theorem OutD.flat : FlatEnc OutD.cs := fun _ => rfl
structure ActD where
 kind : Int
 side : Int
 pos : Int
 many : Int
 text : List UInt8
 addr : AddrD
 letter : LetterD
deriving DecidableEq, Inhabited
def ActD.cs (x : ActD) : List Sc := [.int .i64 x.kind, .int .i64 x.side, .int .i64 x.pos, .int .i64 x.many, .st x.text, .int .i64 x.addr.id, .int .i64 x.addr.addr, .bo x.addr.spare, .bo x.addr.told, .int .i64 x.letter.kind, .int .i64 x.letter.frm, .int .i64 x.letter.to, .int .i64 x.letter.port, .int .i64 x.letter.key, .int .i64 x.letter.token, .int .i64 x.letter.nonce, .int .i64 x.letter.give, .int .i64 x.letter.sgn, .int .i64 x.letter.tag.kind, .int .i64 x.letter.tag.one, .int .i64 x.letter.tag.two, .int .i64 x.letter.tag.a, .int .i64 x.letter.tag.b, .int .i64 x.letter.id, .int .i64 x.letter.addr, .bo x.letter.spare, .int .i64 x.letter.pos, .st x.letter.text]
def ActD.wf (x : ActD) : Prop := I64 x.kind ∧ I64 x.side ∧ I64 x.pos ∧ I64 x.many ∧ x.text.length ≤ maxLen ∧ I64 x.addr.id ∧ I64 x.addr.addr ∧ I64 x.letter.kind ∧ I64 x.letter.frm ∧ I64 x.letter.to ∧ I64 x.letter.port ∧ I64 x.letter.key ∧ I64 x.letter.token ∧ I64 x.letter.nonce ∧ I64 x.letter.give ∧ I64 x.letter.sgn ∧ I64 x.letter.tag.kind ∧ I64 x.letter.tag.one ∧ I64 x.letter.tag.two ∧ I64 x.letter.tag.a ∧ I64 x.letter.tag.b ∧ I64 x.letter.id ∧ I64 x.letter.addr ∧ I64 x.letter.pos ∧ x.letter.text.length ≤ maxLen
def ActD.ls : List L0 := [.int, .int, .int, .int, .str, .int, .int, .bool, .bool, .int, .int, .int, .int, .int, .int, .int, .int, .int, .int, .int, .int, .int, .int, .int, .int, .bool, .int, .str]
theorem ActD.flat : FlatEnc ActD.cs := fun _ => rfl
attribute [go_sem] intC RoadD.cs AddrD.cs PolicyD.cs BucketD.cs HalfD.cs TagD.cs LetterD.cs SubD.cs PieceD.cs OutD.cs ActD.cs
end
section
theorem tl_2 : tload Tryd.prog 2 = some none := by kernel_rfl
theorem ts_2 : tst Tryd.prog 2 = some 1 := by kernel_rfl
theorem tz_2 : tz Tryd.prog 2 = some [.int .i64 0] := by kernel_rfl
theorem tl_3 : tload Tryd.prog 3 = some none := by kernel_rfl
theorem ts_3 : tst Tryd.prog 3 = some 1 := by kernel_rfl
theorem tz_3 : tz Tryd.prog 3 = some [.int .i64 0] := by kernel_rfl
theorem tl_4 : tload Tryd.prog 4 = some none := by kernel_rfl
theorem ts_4 : tst Tryd.prog 4 = some 1 := by kernel_rfl
theorem tz_4 : tz Tryd.prog 4 = some [.bo false] := by kernel_rfl
theorem tbo_4 : tbool Tryd.prog 4 = true := by kernel_rfl
theorem tl_5 : tload Tryd.prog 5 = some none := by kernel_rfl
theorem ts_5 : tst Tryd.prog 5 = some 1 := by kernel_rfl
theorem tz_5 : tz Tryd.prog 5 = some [.int .u8 0] := by kernel_rfl
theorem tl_9 : tload Tryd.prog 9 = some none := by kernel_rfl
theorem ts_9 : tst Tryd.prog 9 = some 1 := by kernel_rfl
theorem tz_9 : tz Tryd.prog 9 = some [.st []] := by kernel_rfl
theorem tstr_9 : tstr Tryd.prog 9 = true := by kernel_rfl
theorem tl_12 : tload Tryd.prog 12 = some none := by kernel_rfl
theorem ts_12 : tst Tryd.prog 12 = some 1 := by kernel_rfl
theorem tz_12 : tz Tryd.prog 12 = some [.int .u64 0] := by kernel_rfl
theorem tl_21 : tload Tryd.prog 21 = some none := by kernel_rfl
theorem ts_21 : tst Tryd.prog 21 = some 1 := by kernel_rfl
theorem tz_21 : tz Tryd.prog 21 = some [.int .i32 0] := by kernel_rfl
theorem tl_22 : tload Tryd.prog 22 = some none := by kernel_rfl
theorem ts_22 : tst Tryd.prog 22 = some 1 := by kernel_rfl
theorem tz_22 : tz Tryd.prog 22 = some [.nil] := by kernel_rfl
theorem tsl_22 : tsl Tryd.prog 22 = some (5, 1) := by kernel_rfl
theorem tl_24 : tload Tryd.prog 24 = some (some 5) := by kernel_rfl
theorem ts_24 : tst Tryd.prog 24 = some 5 := by kernel_rfl
theorem tz_24 : tz Tryd.prog 24 = some [.int .i64 0, .int .i64 0, .int .i64 0, .int .i64 0, .int .i64 0] := by kernel_rfl
theorem tsz_24 : tsz Tryd.prog 24 = 5 := by kernel_rfl
theorem tag_24 : tagg Tryd.prog 24 = true := by kernel_rfl
theorem tb_24 : tbuild Tryd.prog 24 = some [.int .i64 0, .int .i64 0, .int .i64 0, .int .i64 0, .int .i64 0] := by kernel_rfl
theorem tf_24_0 : tfld Tryd.prog 24 0 = some (0, 1) := by kernel_rfl
theorem tf_24_1 : tfld Tryd.prog 24 1 = some (1, 1) := by kernel_rfl
theorem tf_24_2 : tfld Tryd.prog 24 2 = some (2, 1) := by kernel_rfl
theorem tf_24_3 : tfld Tryd.prog 24 3 = some (3, 1) := by kernel_rfl
theorem tf_24_4 : tfld Tryd.prog 24 4 = some (4, 1) := by kernel_rfl
theorem tl_25 : tload Tryd.prog 25 = some (some 5) := by kernel_rfl
theorem ts_25 : tst Tryd.prog 25 = some 5 := by kernel_rfl
theorem tz_25 : tz Tryd.prog 25 = some [.int .i64 0, .int .i64 0, .int .i64 0, .int .i64 0, .int .i64 0] := by kernel_rfl
theorem tsz_25 : tsz Tryd.prog 25 = 5 := by kernel_rfl
theorem tag_25 : tagg Tryd.prog 25 = true := by kernel_rfl
theorem tb_25 : tbuild Tryd.prog 25 = some [.int .i64 0, .int .i64 0, .int .i64 0, .int .i64 0, .int .i64 0] := by kernel_rfl
theorem tf_25_0 : tfld Tryd.prog 25 0 = some (0, 1) := by kernel_rfl
theorem tf_25_1 : tfld Tryd.prog 25 1 = some (1, 1) := by kernel_rfl
theorem tf_25_2 : tfld Tryd.prog 25 2 = some (2, 1) := by kernel_rfl
theorem tf_25_3 : tfld Tryd.prog 25 3 = some (3, 1) := by kernel_rfl
theorem tf_25_4 : tfld Tryd.prog 25 4 = some (4, 1) := by kernel_rfl
theorem tl_26 : tload Tryd.prog 26 = some (some 19) := by kernel_rfl
theorem ts_26 : tst Tryd.prog 26 = some 19 := by kernel_rfl
theorem tz_26 : tz Tryd.prog 26 = some [.int .i64 0, .int .i64 0, .int .i64 0, .int .i64 0, .int .i64 0, .int .i64 0, .int .i64 0, .int .i64 0, .int .i64 0, .int .i64 0, .int .i64 0, .int .i64 0, .int .i64 0, .int .i64 0, .int .i64 0, .int .i64 0, .bo false, .int .i64 0, .st []] := by kernel_rfl
theorem tsz_26 : tsz Tryd.prog 26 = 19 := by kernel_rfl
theorem tag_26 : tagg Tryd.prog 26 = true := by kernel_rfl
theorem tb_26 : tbuild Tryd.prog 26 = some [.int .i64 0, .int .i64 0, .int .i64 0, .int .i64 0, .int .i64 0, .int .i64 0, .int .i64 0, .int .i64 0, .int .i64 0, .int .i64 0, .int .i64 0, .int .i64 0, .int .i64 0, .int .i64 0, .int .i64 0, .int .i64 0, .bo false, .int .i64 0, .st []] := by kernel_rfl
theorem tf_26_0 : tfld Tryd.prog 26 0 = some (0, 1) := by kernel_rfl
theorem tf_26_1 : tfld Tryd.prog 26 1 = some (1, 1) := by kernel_rfl
theorem tf_26_2 : tfld Tryd.prog 26 2 = some (2, 1) := by kernel_rfl
theorem tf_26_3 : tfld Tryd.prog 26 3 = some (3, 1) := by kernel_rfl
theorem tf_26_4 : tfld Tryd.prog 26 4 = some (4, 1) := by kernel_rfl
theorem tf_26_5 : tfld Tryd.prog 26 5 = some (5, 1) := by kernel_rfl
theorem tf_26_6 : tfld Tryd.prog 26 6 = some (6, 1) := by kernel_rfl
theorem tf_26_7 : tfld Tryd.prog 26 7 = some (7, 1) := by kernel_rfl
theorem tf_26_8 : tfld Tryd.prog 26 8 = some (8, 1) := by kernel_rfl
theorem tf_26_9 : tfld Tryd.prog 26 9 = some (9, 5) := by kernel_rfl
theorem tf_26_10 : tfld Tryd.prog 26 10 = some (14, 1) := by kernel_rfl
theorem tf_26_11 : tfld Tryd.prog 26 11 = some (15, 1) := by kernel_rfl
theorem tf_26_12 : tfld Tryd.prog 26 12 = some (16, 1) := by kernel_rfl
theorem tf_26_13 : tfld Tryd.prog 26 13 = some (17, 1) := by kernel_rfl
theorem tf_26_14 : tfld Tryd.prog 26 14 = some (18, 1) := by kernel_rfl
theorem tl_27 : tload Tryd.prog 27 = some (some 19) := by kernel_rfl
theorem ts_27 : tst Tryd.prog 27 = some 19 := by kernel_rfl
theorem tz_27 : tz Tryd.prog 27 = some [.int .i64 0, .int .i64 0, .int .i64 0, .int .i64 0, .int .i64 0, .int .i64 0, .int .i64 0, .int .i64 0, .int .i64 0, .int .i64 0, .int .i64 0, .int .i64 0, .int .i64 0, .int .i64 0, .int .i64 0, .int .i64 0, .bo false, .int .i64 0, .st []] := by kernel_rfl
theorem tsz_27 : tsz Tryd.prog 27 = 19 := by kernel_rfl
theorem tag_27 : tagg Tryd.prog 27 = true := by kernel_rfl
theorem tb_27 : tbuild Tryd.prog 27 = some [.int .i64 0, .int .i64 0, .int .i64 0, .int .i64 0, .int .i64 0, .int .i64 0, .int .i64 0, .int .i64 0, .int .i64 0, .int .i64 0, .int .i64 0, .int .i64 0, .int .i64 0, .int .i64 0, .int .i64 0, .int .i64 0, .bo false, .int .i64 0, .st []] := by kernel_rfl
theorem tf_27_0 : tfld Tryd.prog 27 0 = some (0, 1) := by kernel_rfl
theorem tf_27_1 : tfld Tryd.prog 27 1 = some (1, 1) := by kernel_rfl
theorem tf_27_2 : tfld Tryd.prog 27 2 = some (2, 1) := by kernel_rfl
theorem tf_27_3 : tfld Tryd.prog 27 3 = some (3, 1) := by kernel_rfl
theorem tf_27_4 : tfld Tryd.prog 27 4 = some (4, 1) := by kernel_rfl
theorem tf_27_5 : tfld Tryd.prog 27 5 = some (5, 1) := by kernel_rfl
theorem tf_27_6 : tfld Tryd.prog 27 6 = some (6, 1) := by kernel_rfl
theorem tf_27_7 : tfld Tryd.prog 27 7 = some (7, 1) := by kernel_rfl
theorem tf_27_8 : tfld Tryd.prog 27 8 = some (8, 1) := by kernel_rfl
theorem tf_27_9 : tfld Tryd.prog 27 9 = some (9, 5) := by kernel_rfl
theorem tf_27_10 : tfld Tryd.prog 27 10 = some (14, 1) := by kernel_rfl
theorem tf_27_11 : tfld Tryd.prog 27 11 = some (15, 1) := by kernel_rfl
theorem tf_27_12 : tfld Tryd.prog 27 12 = some (16, 1) := by kernel_rfl
theorem tf_27_13 : tfld Tryd.prog 27 13 = some (17, 1) := by kernel_rfl
theorem tf_27_14 : tfld Tryd.prog 27 14 = some (18, 1) := by kernel_rfl
theorem tl_33 : tload Tryd.prog 33 = some (some 4) := by kernel_rfl
theorem ts_33 : tst Tryd.prog 33 = some 4 := by kernel_rfl
theorem tz_33 : tz Tryd.prog 33 = some [.int .i64 0, .int .i64 0, .bo false, .bo false] := by kernel_rfl
theorem tsz_33 : tsz Tryd.prog 33 = 4 := by kernel_rfl
theorem tag_33 : tagg Tryd.prog 33 = true := by kernel_rfl
theorem tb_33 : tbuild Tryd.prog 33 = some [.int .i64 0, .int .i64 0, .bo false, .bo false] := by kernel_rfl
theorem tf_33_0 : tfld Tryd.prog 33 0 = some (0, 1) := by kernel_rfl
theorem tf_33_1 : tfld Tryd.prog 33 1 = some (1, 1) := by kernel_rfl
theorem tf_33_2 : tfld Tryd.prog 33 2 = some (2, 1) := by kernel_rfl
theorem tf_33_3 : tfld Tryd.prog 33 3 = some (3, 1) := by kernel_rfl
theorem tl_34 : tload Tryd.prog 34 = some (some 4) := by kernel_rfl
theorem ts_34 : tst Tryd.prog 34 = some 4 := by kernel_rfl
theorem tz_34 : tz Tryd.prog 34 = some [.int .i64 0, .int .i64 0, .bo false, .bo false] := by kernel_rfl
theorem tsz_34 : tsz Tryd.prog 34 = 4 := by kernel_rfl
theorem tag_34 : tagg Tryd.prog 34 = true := by kernel_rfl
theorem tb_34 : tbuild Tryd.prog 34 = some [.int .i64 0, .int .i64 0, .bo false, .bo false] := by kernel_rfl
theorem tf_34_0 : tfld Tryd.prog 34 0 = some (0, 1) := by kernel_rfl
theorem tf_34_1 : tfld Tryd.prog 34 1 = some (1, 1) := by kernel_rfl
theorem tf_34_2 : tfld Tryd.prog 34 2 = some (2, 1) := by kernel_rfl
theorem tf_34_3 : tfld Tryd.prog 34 3 = some (3, 1) := by kernel_rfl
theorem tl_35 : tload Tryd.prog 35 = some (some 28) := by kernel_rfl
theorem ts_35 : tst Tryd.prog 35 = some 28 := by kernel_rfl
theorem tz_35 : tz Tryd.prog 35 = some [.int .i64 0, .int .i64 0, .int .i64 0, .int .i64 0, .st [], .int .i64 0, .int .i64 0, .bo false, .bo false, .int .i64 0, .int .i64 0, .int .i64 0, .int .i64 0, .int .i64 0, .int .i64 0, .int .i64 0, .int .i64 0, .int .i64 0, .int .i64 0, .int .i64 0, .int .i64 0, .int .i64 0, .int .i64 0, .int .i64 0, .int .i64 0, .bo false, .int .i64 0, .st []] := by kernel_rfl
theorem tsz_35 : tsz Tryd.prog 35 = 28 := by kernel_rfl
theorem tag_35 : tagg Tryd.prog 35 = true := by kernel_rfl
theorem tb_35 : tbuild Tryd.prog 35 = some [.int .i64 0, .int .i64 0, .int .i64 0, .int .i64 0, .st [], .int .i64 0, .int .i64 0, .bo false, .bo false, .int .i64 0, .int .i64 0, .int .i64 0, .int .i64 0, .int .i64 0, .int .i64 0, .int .i64 0, .int .i64 0, .int .i64 0, .int .i64 0, .int .i64 0, .int .i64 0, .int .i64 0, .int .i64 0, .int .i64 0, .int .i64 0, .bo false, .int .i64 0, .st []] := by kernel_rfl
theorem tf_35_0 : tfld Tryd.prog 35 0 = some (0, 1) := by kernel_rfl
theorem tf_35_1 : tfld Tryd.prog 35 1 = some (1, 1) := by kernel_rfl
theorem tf_35_2 : tfld Tryd.prog 35 2 = some (2, 1) := by kernel_rfl
theorem tf_35_3 : tfld Tryd.prog 35 3 = some (3, 1) := by kernel_rfl
theorem tf_35_4 : tfld Tryd.prog 35 4 = some (4, 1) := by kernel_rfl
theorem tf_35_5 : tfld Tryd.prog 35 5 = some (5, 4) := by kernel_rfl
theorem tf_35_6 : tfld Tryd.prog 35 6 = some (9, 19) := by kernel_rfl
theorem tl_36 : tload Tryd.prog 36 = some (some 28) := by kernel_rfl
theorem ts_36 : tst Tryd.prog 36 = some 28 := by kernel_rfl
theorem tz_36 : tz Tryd.prog 36 = some [.int .i64 0, .int .i64 0, .int .i64 0, .int .i64 0, .st [], .int .i64 0, .int .i64 0, .bo false, .bo false, .int .i64 0, .int .i64 0, .int .i64 0, .int .i64 0, .int .i64 0, .int .i64 0, .int .i64 0, .int .i64 0, .int .i64 0, .int .i64 0, .int .i64 0, .int .i64 0, .int .i64 0, .int .i64 0, .int .i64 0, .int .i64 0, .bo false, .int .i64 0, .st []] := by kernel_rfl
theorem tsz_36 : tsz Tryd.prog 36 = 28 := by kernel_rfl
theorem tag_36 : tagg Tryd.prog 36 = true := by kernel_rfl
theorem tb_36 : tbuild Tryd.prog 36 = some [.int .i64 0, .int .i64 0, .int .i64 0, .int .i64 0, .st [], .int .i64 0, .int .i64 0, .bo false, .bo false, .int .i64 0, .int .i64 0, .int .i64 0, .int .i64 0, .int .i64 0, .int .i64 0, .int .i64 0, .int .i64 0, .int .i64 0, .int .i64 0, .int .i64 0, .int .i64 0, .int .i64 0, .int .i64 0, .int .i64 0, .int .i64 0, .bo false, .int .i64 0, .st []] := by kernel_rfl
theorem tf_36_0 : tfld Tryd.prog 36 0 = some (0, 1) := by kernel_rfl
theorem tf_36_1 : tfld Tryd.prog 36 1 = some (1, 1) := by kernel_rfl
theorem tf_36_2 : tfld Tryd.prog 36 2 = some (2, 1) := by kernel_rfl
theorem tf_36_3 : tfld Tryd.prog 36 3 = some (3, 1) := by kernel_rfl
theorem tf_36_4 : tfld Tryd.prog 36 4 = some (4, 1) := by kernel_rfl
theorem tf_36_5 : tfld Tryd.prog 36 5 = some (5, 4) := by kernel_rfl
theorem tf_36_6 : tfld Tryd.prog 36 6 = some (9, 19) := by kernel_rfl
theorem tl_41 : tload Tryd.prog 41 = some (some 2) := by kernel_rfl
theorem ts_41 : tst Tryd.prog 41 = some 2 := by kernel_rfl
theorem tz_41 : tz Tryd.prog 41 = some [.int .i64 0, .int .i64 0] := by kernel_rfl
theorem tsz_41 : tsz Tryd.prog 41 = 2 := by kernel_rfl
theorem tag_41 : tagg Tryd.prog 41 = true := by kernel_rfl
theorem tb_41 : tbuild Tryd.prog 41 = some [.int .i64 0, .int .i64 0] := by kernel_rfl
theorem tf_41_0 : tfld Tryd.prog 41 0 = some (0, 1) := by kernel_rfl
theorem tf_41_1 : tfld Tryd.prog 41 1 = some (1, 1) := by kernel_rfl
theorem tl_42 : tload Tryd.prog 42 = some (some 2) := by kernel_rfl
theorem ts_42 : tst Tryd.prog 42 = some 2 := by kernel_rfl
theorem tz_42 : tz Tryd.prog 42 = some [.int .i64 0, .int .i64 0] := by kernel_rfl
theorem tsz_42 : tsz Tryd.prog 42 = 2 := by kernel_rfl
theorem tag_42 : tagg Tryd.prog 42 = true := by kernel_rfl
theorem tb_42 : tbuild Tryd.prog 42 = some [.int .i64 0, .int .i64 0] := by kernel_rfl
theorem tf_42_0 : tfld Tryd.prog 42 0 = some (0, 1) := by kernel_rfl
theorem tf_42_1 : tfld Tryd.prog 42 1 = some (1, 1) := by kernel_rfl
theorem tl_49 : tload Tryd.prog 49 = some none := by kernel_rfl
theorem ts_49 : tst Tryd.prog 49 = some 1 := by kernel_rfl
theorem tz_49 : tz Tryd.prog 49 = some [.un] := by kernel_rfl
theorem tl_52 : tload Tryd.prog 52 = some none := by kernel_rfl
theorem ts_52 : tst Tryd.prog 52 = some 1 := by kernel_rfl
theorem tz_52 : tz Tryd.prog 52 = some [.nil] := by kernel_rfl
theorem tsl_52 : tsl Tryd.prog 52 = some (55, 1) := by kernel_rfl
theorem tl_54 : tload Tryd.prog 54 = some none := by kernel_rfl
theorem ts_54 : tst Tryd.prog 54 = some 1 := by kernel_rfl
theorem tz_54 : tz Tryd.prog 54 = some [.un] := by kernel_rfl
theorem tl_55 : tload Tryd.prog 55 = some none := by kernel_rfl
theorem ts_55 : tst Tryd.prog 55 = some 1 := by kernel_rfl
theorem tz_55 : tz Tryd.prog 55 = some [.un] := by kernel_rfl
theorem tl_59 : tload Tryd.prog 59 = some none := by kernel_rfl
theorem ts_59 : tst Tryd.prog 59 = some 1 := by kernel_rfl
theorem tz_59 : tz Tryd.prog 59 = some [.nil] := by kernel_rfl
theorem tsl_59 : tsl Tryd.prog 59 = some (9, 1) := by kernel_rfl
theorem tl_64 : tload Tryd.prog 64 = some none := by kernel_rfl
theorem ts_64 : tst Tryd.prog 64 = some 1 := by kernel_rfl
theorem tz_64 : tz Tryd.prog 64 = some [.nil] := by kernel_rfl
theorem tsl_64 : tsl Tryd.prog 64 = some (3, 1) := by kernel_rfl
theorem tl_71 : tload Tryd.prog 71 = some (some 13) := by kernel_rfl
theorem ts_71 : tst Tryd.prog 71 = some 13 := by kernel_rfl
theorem tz_71 : tz Tryd.prog 71 = some [.st [], .st [], .st [], .st [], .st [], .st [], .st [], .st [], .st [], .st [], .st [], .st [], .st []] := by kernel_rfl
theorem tl_77 : tload Tryd.prog 77 = some none := by kernel_rfl
theorem ts_77 : tst Tryd.prog 77 = some 1 := by kernel_rfl
theorem tz_77 : tz Tryd.prog 77 = some [.nil] := by kernel_rfl
theorem tsl_77 : tsl Tryd.prog 77 = some (42, 2) := by kernel_rfl
theorem tl_83 : tload Tryd.prog 83 = some (some 3) := by kernel_rfl
theorem ts_83 : tst Tryd.prog 83 = some 3 := by kernel_rfl
theorem tz_83 : tz Tryd.prog 83 = some [.nil, .int .i64 0, .int .i64 0] := by kernel_rfl
theorem tsz_83 : tsz Tryd.prog 83 = 3 := by kernel_rfl
theorem tag_83 : tagg Tryd.prog 83 = true := by kernel_rfl
theorem tb_83 : tbuild Tryd.prog 83 = some [.nil, .int .i64 0, .int .i64 0] := by kernel_rfl
theorem tf_83_0 : tfld Tryd.prog 83 0 = some (0, 1) := by kernel_rfl
theorem tf_83_1 : tfld Tryd.prog 83 1 = some (1, 1) := by kernel_rfl
theorem tf_83_2 : tfld Tryd.prog 83 2 = some (2, 1) := by kernel_rfl
theorem tl_84 : tload Tryd.prog 84 = some (some 3) := by kernel_rfl
theorem ts_84 : tst Tryd.prog 84 = some 3 := by kernel_rfl
theorem tz_84 : tz Tryd.prog 84 = some [.nil, .int .i64 0, .int .i64 0] := by kernel_rfl
theorem tsz_84 : tsz Tryd.prog 84 = 3 := by kernel_rfl
theorem tag_84 : tagg Tryd.prog 84 = true := by kernel_rfl
theorem tb_84 : tbuild Tryd.prog 84 = some [.nil, .int .i64 0, .int .i64 0] := by kernel_rfl
theorem tf_84_0 : tfld Tryd.prog 84 0 = some (0, 1) := by kernel_rfl
theorem tf_84_1 : tfld Tryd.prog 84 1 = some (1, 1) := by kernel_rfl
theorem tf_84_2 : tfld Tryd.prog 84 2 = some (2, 1) := by kernel_rfl
theorem tl_86 : tload Tryd.prog 86 = some none := by kernel_rfl
theorem ts_86 : tst Tryd.prog 86 = some 1 := by kernel_rfl
theorem tz_86 : tz Tryd.prog 86 = some [.int .u64 0] := by kernel_rfl
theorem tl_98 : tload Tryd.prog 98 = some (some 4) := by kernel_rfl
theorem ts_98 : tst Tryd.prog 98 = some 4 := by kernel_rfl
theorem tz_98 : tz Tryd.prog 98 = some [.un, .un, .un, .st []] := by kernel_rfl
theorem tsz_98 : tsz Tryd.prog 98 = 4 := by kernel_rfl
theorem tag_98 : tagg Tryd.prog 98 = true := by kernel_rfl
theorem tb_98 : tbuild Tryd.prog 98 = some [.un, .un, .un, .st []] := by kernel_rfl
theorem tf_98_0 : tfld Tryd.prog 98 0 = some (0, 1) := by kernel_rfl
theorem tf_98_1 : tfld Tryd.prog 98 1 = some (1, 1) := by kernel_rfl
theorem tf_98_2 : tfld Tryd.prog 98 2 = some (2, 1) := by kernel_rfl
theorem tf_98_3 : tfld Tryd.prog 98 3 = some (3, 1) := by kernel_rfl
theorem tl_100 : tload Tryd.prog 100 = some (some 0) := by kernel_rfl
theorem ts_100 : tst Tryd.prog 100 = some 0 := by kernel_rfl
theorem tl_101 : tload Tryd.prog 101 = some (some 0) := by kernel_rfl
theorem ts_101 : tst Tryd.prog 101 = some 0 := by kernel_rfl
theorem tsz_101 : tsz Tryd.prog 101 = 0 := by kernel_rfl
theorem tag_101 : tagg Tryd.prog 101 = true := by kernel_rfl
theorem tl_104 : tload Tryd.prog 104 = some none := by kernel_rfl
theorem ts_104 : tst Tryd.prog 104 = some 1 := by kernel_rfl
theorem tz_104 : tz Tryd.prog 104 = some [.int .u32 0] := by kernel_rfl
theorem tl_108 : tload Tryd.prog 108 = some none := by kernel_rfl
theorem ts_108 : tst Tryd.prog 108 = some 1 := by kernel_rfl
theorem tz_108 : tz Tryd.prog 108 = some [.un] := by kernel_rfl
theorem tl_111 : tload Tryd.prog 111 = some (some 11) := by kernel_rfl
theorem ts_111 : tst Tryd.prog 111 = some 11 := by kernel_rfl
theorem tsz_111 : tsz Tryd.prog 111 = 11 := by kernel_rfl
theorem tag_111 : tagg Tryd.prog 111 = true := by kernel_rfl
theorem tf_111_0 : tfld Tryd.prog 111 0 = some (0, 1) := by kernel_rfl
theorem tf_111_1 : tfld Tryd.prog 111 1 = some (1, 1) := by kernel_rfl
theorem tf_111_2 : tfld Tryd.prog 111 2 = some (2, 1) := by kernel_rfl
theorem tf_111_3 : tfld Tryd.prog 111 3 = some (3, 1) := by kernel_rfl
theorem tf_111_4 : tfld Tryd.prog 111 4 = some (4, 1) := by kernel_rfl
theorem tf_111_5 : tfld Tryd.prog 111 5 = some (5, 1) := by kernel_rfl
theorem tf_111_6 : tfld Tryd.prog 111 6 = some (6, 1) := by kernel_rfl
theorem tf_111_8 : tfld Tryd.prog 111 8 = some (8, 1) := by kernel_rfl
theorem tf_111_9 : tfld Tryd.prog 111 9 = some (9, 1) := by kernel_rfl
theorem tf_111_10 : tfld Tryd.prog 111 10 = some (10, 1) := by kernel_rfl
theorem tcv_3_5 : tcv Tryd.prog 3 5 = some (.int .u8) := by kernel_rfl
theorem tcv_5_3 : tcv Tryd.prog 5 3 = some (.int .i64) := by kernel_rfl
theorem tcv_22_9 : tcv Tryd.prog 22 9 = some .b2s := by kernel_rfl
attribute [go_sem] tl_2 ts_2 tz_2 tl_3 ts_3 tz_3 tl_4 ts_4 tz_4 tbo_4 tl_5 ts_5 tz_5 tl_9 ts_9 tz_9 tstr_9 tl_12 ts_12 tz_12 tl_21 ts_21 tz_21 tl_22 ts_22 tz_22 tsl_22 tl_24 ts_24 tz_24 tsz_24 tag_24 tb_24 tf_24_0 tf_24_1 tf_24_2 tf_24_3 tf_24_4 tl_25 ts_25
attribute [go_sem] tz_25 tsz_25 tag_25 tb_25 tf_25_0 tf_25_1 tf_25_2 tf_25_3 tf_25_4 tl_26 ts_26 tz_26 tsz_26 tag_26 tb_26 tf_26_0 tf_26_1 tf_26_2 tf_26_3 tf_26_4 tf_26_5 tf_26_6 tf_26_7 tf_26_8 tf_26_9 tf_26_10 tf_26_11 tf_26_12 tf_26_13 tf_26_14 tl_27 ts_27 tz_27 tsz_27 tag_27 tb_27 tf_27_0 tf_27_1 tf_27_2 tf_27_3
attribute [go_sem] tf_27_4 tf_27_5 tf_27_6 tf_27_7 tf_27_8 tf_27_9 tf_27_10 tf_27_11 tf_27_12 tf_27_13 tf_27_14 tl_33 ts_33 tz_33 tsz_33 tag_33 tb_33 tf_33_0 tf_33_1 tf_33_2 tf_33_3 tl_34 ts_34 tz_34 tsz_34 tag_34 tb_34 tf_34_0 tf_34_1 tf_34_2 tf_34_3 tl_35 ts_35 tz_35 tsz_35 tag_35 tb_35 tf_35_0 tf_35_1 tf_35_2
attribute [go_sem] tf_35_3 tf_35_4 tf_35_5 tf_35_6 tl_36 ts_36 tz_36 tsz_36 tag_36 tb_36 tf_36_0 tf_36_1 tf_36_2 tf_36_3 tf_36_4 tf_36_5 tf_36_6 tl_41 ts_41 tz_41 tsz_41 tag_41 tb_41 tf_41_0 tf_41_1 tl_42 ts_42 tz_42 tsz_42 tag_42 tb_42 tf_42_0 tf_42_1 tl_49 ts_49 tz_49 tl_52 ts_52 tz_52 tsl_52
attribute [go_sem] tl_54 ts_54 tz_54 tl_55 ts_55 tz_55 tl_59 ts_59 tz_59 tsl_59 tl_64 ts_64 tz_64 tsl_64 tl_71 ts_71 tz_71 tl_77 ts_77 tz_77 tsl_77 tl_83 ts_83 tz_83 tsz_83 tag_83 tb_83 tf_83_0 tf_83_1 tf_83_2 tl_84 ts_84 tz_84 tsz_84 tag_84 tb_84 tf_84_0 tf_84_1 tf_84_2 tl_86
attribute [go_sem] ts_86 tz_86 tl_98 ts_98 tz_98 tsz_98 tag_98 tb_98 tf_98_0 tf_98_1 tf_98_2 tf_98_3 tl_100 ts_100 tl_101 ts_101 tsz_101 tag_101 tl_104 ts_104 tz_104 tl_108 ts_108 tz_108 tl_111 ts_111 tsz_111 tag_111 tf_111_0 tf_111_1 tf_111_2 tf_111_3 tf_111_4 tf_111_5 tf_111_6 tf_111_8 tf_111_9 tf_111_10 tcv_3_5 tcv_5_3
attribute [go_sem] tcv_22_9
end
section
open Go.RowKit

theorem w64 {n : Int} (h : -9223372036854775808 ≤ n ∧ n ≤ 9223372036854775807) : IntKind.i64.wrap n = n := by
 rw [IntKind.wrap_i64]; omega
theorem w8 {n : Int} (h : 0 ≤ n ∧ n ≤ 255) : IntKind.u8.wrap n = n := by
 rw [IntKind.wrap_u8]; omega
theorem ints_get {l : List Int} {k : Nat} (h : k < l.length) : (l.map intC)[k]? = some [.int .i64 l[k]] := by simp [intC, h]
theorem nat_ne {a b : Nat} (h : a ≠ b) : ((a : Int) == (b : Int)) = false := by simp; omega
theorem cast_add (a b : Nat) : ((a + b : Nat) : Int) = (a : Int) + (b : Int) := Int.natCast_add a b
theorem cast_num (n : Nat) : ((OfNat.ofNat n : Nat) : Int) = OfNat.ofNat n := rfl
theorem cast_one : ((1 : Nat) : Int) = 1 := rfl
theorem cast_zero : ((0 : Nat) : Int) = 0 := rfl
theorem take_len_map {α β : Type} (f : α → β) (l : List α) : List.take l.length (List.map f l) = List.map f l := by
 rw [List.take_of_length_le (by simp)]
theorem ez_1 : ((1 : Nat) = 0) = False := eq_false (by decide)
theorem ez_2 : ((2 : Nat) = 0) = False := eq_false (by decide)
theorem ez_3 : ((3 : Nat) = 0) = False := eq_false (by decide)
theorem ez_4 : ((4 : Nat) = 0) = False := eq_false (by decide)
theorem ez_5 : ((5 : Nat) = 0) = False := eq_false (by decide)
theorem ez_6 : ((6 : Nat) = 0) = False := eq_false (by decide)
theorem ez_7 : ((7 : Nat) = 0) = False := eq_false (by decide)
theorem ez_8 : ((8 : Nat) = 0) = False := eq_false (by decide)
theorem ez_9 : ((9 : Nat) = 0) = False := eq_false (by decide)
theorem ez_10 : ((10 : Nat) = 0) = False := eq_false (by decide)
theorem ez_11 : ((11 : Nat) = 0) = False := eq_false (by decide)
theorem ez_12 : ((12 : Nat) = 0) = False := eq_false (by decide)
theorem ez_13 : ((13 : Nat) = 0) = False := eq_false (by decide)
theorem ez_14 : ((14 : Nat) = 0) = False := eq_false (by decide)
theorem ez_15 : ((15 : Nat) = 0) = False := eq_false (by decide)
theorem ez_16 : ((16 : Nat) = 0) = False := eq_false (by decide)
theorem ez_17 : ((17 : Nat) = 0) = False := eq_false (by decide)
theorem ez_18 : ((18 : Nat) = 0) = False := eq_false (by decide)
theorem ez_19 : ((19 : Nat) = 0) = False := eq_false (by decide)
theorem ez_20 : ((20 : Nat) = 0) = False := eq_false (by decide)
theorem ez_21 : ((21 : Nat) = 0) = False := eq_false (by decide)
theorem ez_22 : ((22 : Nat) = 0) = False := eq_false (by decide)
theorem ez_23 : ((23 : Nat) = 0) = False := eq_false (by decide)
theorem ez_24 : ((24 : Nat) = 0) = False := eq_false (by decide)
theorem ez_25 : ((25 : Nat) = 0) = False := eq_false (by decide)
theorem ez_26 : ((26 : Nat) = 0) = False := eq_false (by decide)
theorem ez_27 : ((27 : Nat) = 0) = False := eq_false (by decide)
theorem ez_28 : ((28 : Nat) = 0) = False := eq_false (by decide)
theorem ez_29 : ((29 : Nat) = 0) = False := eq_false (by decide)
theorem ez_30 : ((30 : Nat) = 0) = False := eq_false (by decide)
theorem ez_31 : ((31 : Nat) = 0) = False := eq_false (by decide)
theorem ez_32 : ((32 : Nat) = 0) = False := eq_false (by decide)
theorem ez_33 : ((33 : Nat) = 0) = False := eq_false (by decide)
theorem ez_34 : ((34 : Nat) = 0) = False := eq_false (by decide)
theorem ez_35 : ((35 : Nat) = 0) = False := eq_false (by decide)
theorem ez_36 : ((36 : Nat) = 0) = False := eq_false (by decide)
theorem ez_37 : ((37 : Nat) = 0) = False := eq_false (by decide)
theorem ez_38 : ((38 : Nat) = 0) = False := eq_false (by decide)
theorem ez_39 : ((39 : Nat) = 0) = False := eq_false (by decide)
attribute [go_sem] ez_1 ez_2 ez_3 ez_4 ez_5 ez_6 ez_7 ez_8 ez_9 ez_10 ez_11 ez_12 ez_13 ez_14 ez_15 ez_16 ez_17 ez_18 ez_19 ez_20 ez_21 ez_22 ez_23 ez_24 ez_25 ez_26 ez_27 ez_28 ez_29 ez_30 ez_31 ez_32 ez_33 ez_34 ez_35 ez_36 ez_37 ez_38 ez_39 if_true if_false
attribute [go_sem] ne_eq not_false_eq_true Nat.le_refl take_len_map cast_add cast_num cast_one cast_zero
attribute [go_sem] Bool.false_eq_true false_implies imp_self and_true true_and Bool.false_and Bool.true_and Bool.and_true Bool.and_false
theorem byteSc_byteC (b : UInt8) : byteSc (byteC b) = b := by simp [byteC, byteSc]
theorem map_byteSc (l : List UInt8) : List.map byteSc (List.map byteC l) = l := by
 rw [List.map_map]
 have : byteSc ∘ byteC = id := funext fun b => byteSc_byteC b
 rw [this, List.map_id]
theorem take_1add {α : Type} (n : Nat) (a : α) (l : List α) : List.take (1 + n) (a :: l) = a :: List.take n l := by
 rw [Nat.add_comm]; rfl
theorem drop_1add {α : Type} (n : Nat) (a : α) (l : List α) : List.drop (1 + n) (a :: l) = List.drop n l := by
 rw [Nat.add_comm]; rfl
attribute [go_sem] byteSc_byteC map_byteSc take_1add drop_1add
theorem isByte_byteC (b : UInt8) : isByte (byteC b) = true := by
 rfl
theorem all_byteC (l : List UInt8) : (∀ c, c ∈ List.map byteC l → isByte c = true) = True := by
 refine eq_true fun c hc => ?_
 obtain ⟨b, _, rfl⟩ := List.mem_map.1 hc
 exact isByte_byteC b
theorem getD_at' {α : Type} {l : List α} {k : Nat} (d : α) (h : k < l.length) : l.getD k d = l[k] := by
 rw [List.getD_eq_getElem?_getD, List.getElem?_eq_getElem h]; rfl
theorem shr4 (b : UInt8) : ((b.toNat : Int).fdiv (2 ^ min 4 8)) = ((b.toNat / 16 : Nat) : Int) := by
 have h : ((b.toNat : Int).fdiv 16) = ((b.toNat / 16 : Nat) : Int) := by
  rw [Int.fdiv_eq_ediv_of_nonneg _ (by omega)]
  omega
 exact h
theorem and15' (b : UInt8) : (BitVec.ofInt 8 (b.toNat : Int) &&& BitVec.ofInt 8 15).toNat = b.toNat % 16 := by
 have hb := b.toNat_lt
 rw [BitVec.toNat_and]
 have h1 : (BitVec.ofInt 8 (b.toNat : Int)).toNat = b.toNat := by
  simp
 rw [h1]
 exact Nat.and_two_pow_sub_one_eq_mod b.toNat 4
theorem and15 (b : UInt8) : @BitVec.toNat 8 (@HAnd.hAnd (BitVec 8) (BitVec 8) (BitVec 8) (@instHAndOfAndOp (BitVec IntKind.u8.bits) (@BitVec.instAndOp IntKind.u8.bits)) (BitVec.ofInt 8 (b.toNat : Int)) (BitVec.ofInt 8 15)) = b.toNat % 16 := and15' b
theorem ntmod_2 (n : Nat) : (n : Int).tmod 2 = ((n % 2 : Nat) : Int) := by
 rw [Int.tmod_eq_emod_of_nonneg (by omega)]; omega
theorem ntdiv_2 (n : Nat) : (n : Int).tdiv 2 = ((n / 2 : Nat) : Int) := by
 rw [Int.tdiv_eq_ediv_of_nonneg (by omega)]; omega
attribute [go_sem] ntmod_2 ntdiv_2
theorem ntmod_3 (n : Nat) : (n : Int).tmod 3 = ((n % 3 : Nat) : Int) := by
 rw [Int.tmod_eq_emod_of_nonneg (by omega)]; omega
theorem ntdiv_3 (n : Nat) : (n : Int).tdiv 3 = ((n / 3 : Nat) : Int) := by
 rw [Int.tdiv_eq_ediv_of_nonneg (by omega)]; omega
attribute [go_sem] ntmod_3 ntdiv_3
theorem ntmod_4 (n : Nat) : (n : Int).tmod 4 = ((n % 4 : Nat) : Int) := by
 rw [Int.tmod_eq_emod_of_nonneg (by omega)]; omega
theorem ntdiv_4 (n : Nat) : (n : Int).tdiv 4 = ((n / 4 : Nat) : Int) := by
 rw [Int.tdiv_eq_ediv_of_nonneg (by omega)]; omega
attribute [go_sem] ntmod_4 ntdiv_4
theorem ntmod_5 (n : Nat) : (n : Int).tmod 5 = ((n % 5 : Nat) : Int) := by
 rw [Int.tmod_eq_emod_of_nonneg (by omega)]; omega
theorem ntdiv_5 (n : Nat) : (n : Int).tdiv 5 = ((n / 5 : Nat) : Int) := by
 rw [Int.tdiv_eq_ediv_of_nonneg (by omega)]; omega
attribute [go_sem] ntmod_5 ntdiv_5
theorem ntmod_6 (n : Nat) : (n : Int).tmod 6 = ((n % 6 : Nat) : Int) := by
 rw [Int.tmod_eq_emod_of_nonneg (by omega)]; omega
theorem ntdiv_6 (n : Nat) : (n : Int).tdiv 6 = ((n / 6 : Nat) : Int) := by
 rw [Int.tdiv_eq_ediv_of_nonneg (by omega)]; omega
attribute [go_sem] ntmod_6 ntdiv_6
theorem ntmod_8 (n : Nat) : (n : Int).tmod 8 = ((n % 8 : Nat) : Int) := by
 rw [Int.tmod_eq_emod_of_nonneg (by omega)]; omega
theorem ntdiv_8 (n : Nat) : (n : Int).tdiv 8 = ((n / 8 : Nat) : Int) := by
 rw [Int.tdiv_eq_ediv_of_nonneg (by omega)]; omega
attribute [go_sem] ntmod_8 ntdiv_8
theorem ntmod_10 (n : Nat) : (n : Int).tmod 10 = ((n % 10 : Nat) : Int) := by
 rw [Int.tmod_eq_emod_of_nonneg (by omega)]; omega
theorem ntdiv_10 (n : Nat) : (n : Int).tdiv 10 = ((n / 10 : Nat) : Int) := by
 rw [Int.tdiv_eq_ediv_of_nonneg (by omega)]; omega
attribute [go_sem] ntmod_10 ntdiv_10
theorem ntmod_16 (n : Nat) : (n : Int).tmod 16 = ((n % 16 : Nat) : Int) := by
 rw [Int.tmod_eq_emod_of_nonneg (by omega)]; omega
theorem ntdiv_16 (n : Nat) : (n : Int).tdiv 16 = ((n / 16 : Nat) : Int) := by
 rw [Int.tdiv_eq_ediv_of_nonneg (by omega)]; omega
attribute [go_sem] ntmod_16 ntdiv_16
theorem ntmod_32 (n : Nat) : (n : Int).tmod 32 = ((n % 32 : Nat) : Int) := by
 rw [Int.tmod_eq_emod_of_nonneg (by omega)]; omega
theorem ntdiv_32 (n : Nat) : (n : Int).tdiv 32 = ((n / 32 : Nat) : Int) := by
 rw [Int.tdiv_eq_ediv_of_nonneg (by omega)]; omega
attribute [go_sem] ntmod_32 ntdiv_32
theorem toNat_addz {k : Nat} {z : Int} (h : 0 ≤ z) : ((k : Int) + z).toNat = k + z.toNat := by omega
def strC (s : List UInt8) : List Sc := [.st s]
theorem strs_get {l : List (List UInt8)} {k : Nat} (h : k < l.length) : (l.map strC)[k]? = some [.st l[k]] := by simp [strC, h]
theorem take_drop_succ {l : List UInt8} {k b : Nat} (h : k < l.length) (hb : b ≤ k) : (l.take (k + 1)).drop b = (l.take k).drop b ++ [l[k]] := by
 rw [List.take_succ_eq_append_getElem h, List.drop_append_of_le_length (by simp; omega)]
theorem getD_u8 {l : List UInt8} {k : Nat} (h : k < l.length) : l.getD k 0 = l[k] := getD_at' 0 h
attribute [go_sem] strC intC
theorem dec_t {a b : Int} (h : a < b) : decide (a < b) = true := decide_eq_true h
theorem dec_f {a b : Int} (h : ¬ a < b) : decide (a < b) = false := decide_eq_false h
theorem dle_t {a b : Int} (h : a ≤ b) : decide (a ≤ b) = true := decide_eq_true h
theorem dle_f {a b : Int} (h : ¬ a ≤ b) : decide (a ≤ b) = false := decide_eq_false h
theorem ieq_t {a b : Int} (h : a = b) : (a == b) = true := beq_iff_eq.2 h
theorem ieq_f {a b : Int} (h : ¬ a = b) : (a == b) = false := beq_eq_false_iff_ne.2 h
theorem ine_t {a b : Int} (h : ¬ a = b) : (a != b) = true := bne_iff_ne.2 h
theorem ine_f {a b : Int} (h : a = b) : (a != b) = false := bne_eq_false_iff_eq.2 h
theorem nat_beq (a b : Nat) : ((a : Int) == (b : Int)) = (a == b) := by
 by_cases h : a = b
 ·subst h; simp
 ·rw [nat_ne h]; simp [h]
attribute [go_sem] w64 w8 toNat_addz getD_u8 map_get dec_t dec_f dle_t dle_f ieq_t ieq_f ine_t ine_f List.not_mem_nil implies_true or_imp forall_and forall_eq isByte_byteC all_byteC List.length_append
end
section
open Go.RowKit

theorem byteC_conv {cs : List Value} (h : See0s [.byte] cs) : ∃ n : UInt8, L2 (ScR []) (byteC n) cs ∧ True := by
 obtain ⟨_, _, rfl, ⟨n, rfl, h0, h1⟩, rfl⟩ := h
 refine ⟨UInt8.ofNat n.toNat, ⟨?_, trivial⟩, trivial⟩
 show Value.int .u8 n = .int .u8 ((UInt8.ofNat n.toNat).toNat : Nat)
 congr 1
 rw [UInt8.toNat_ofNat']
 omega
structure CurD where
 i : Nat
 h : Int
def CurD.cs (c : CurD) (b : List UInt8) : List Sc := [.sl 0 0 b.length, .int .i64 (c.i : Nat), .int .i64 c.h]
def CurD.hp (c : CurD) (b : List UInt8) : Hp := [some ⟨b.map byteC, 1, 5, false, true⟩, some ⟨[c.cs b], 3, 84, true, false⟩]
def CurD.ok (c : CurD) (b : List UInt8) : Prop := c.i ≤ b.length ∧ b.length ≤ 1048576
attribute [go_sem] CurD.cs CurD.hp
def and64 (a b : Int) : Int := IntKind.i64.wrap (BitVec.ofInt 64 a &&& BitVec.ofInt 64 b).toNat
def xor64 (a b : Int) : Int := IntKind.i64.wrap (BitVec.ofInt 64 a ^^^ BitVec.ofInt 64 b).toNat
theorem and_255 (a : Int) : 0 ≤ and64 a 255 ∧ and64 a 255 ≤ 255 := by
 have h : (BitVec.ofInt 64 a &&& BitVec.ofInt 64 255).toNat ≤ 255 := by
  rw [BitVec.toNat_and]
  exact Nat.le_trans Nat.and_le_right (by decide)
 have e : and64 a 255 = ((BitVec.ofInt 64 a &&& BitVec.ofInt 64 255).toNat : Int) := w64 (by
  have h' : (BitVec.ofInt 64 a &&& BitVec.ofInt 64 255).toNat ≤ 255 := h
  omega)
 rw [e]
 omega
def CurD.nxt (c : CurD) : Int := IntKind.i64.wrap (IntKind.i64.wrap (c.h * 6364136223846793005) + 1442695040888963407)
def CurD.x0 (c : CurD) : Int := and64 (xor64 (c.nxt.fdiv (2 ^ min 33 64)) (c.nxt.fdiv (2 ^ min 45 64))) 255
def CurD.bv (c : CurD) (b : List UInt8) : Int := if h : c.i < b.length then and64 (IntKind.i64.wrap (c.x0 + b[c.i].toNat)) 255 else c.x0
def CurD.bn (c : CurD) (b : List UInt8) : CurD := if c.i < b.length then ⟨c.i + 1, c.nxt⟩ else ⟨c.i, c.nxt⟩
theorem CurD.bv_le (c : CurD) (b : List UInt8) : 0 ≤ c.bv b ∧ c.bv b ≤ 255 := by
 rw [CurD.bv]
 split
 ·exact and_255 _
 ·exact and_255 _
theorem CurD.bn_ok {c : CurD} {b : List UInt8} (h : c.ok b) : (c.bn b).ok b := by
 rw [CurD.bn]
 split
 ·rename_i hi; exact ⟨hi, h.2⟩
 ·exact h
theorem aInt_and (a b : Int) : aInt .and .i64 a b = some (.int .i64 (and64 a b), True) := rfl
theorem aInt_xor (a b : Int) : aInt .xor .i64 a b = some (.int .i64 (xor64 a b), True) := rfl
theorem nxt_def (c : CurD) : IntKind.i64.wrap (IntKind.i64.wrap (c.h * 6364136223846793005) + 1442695040888963407) = c.nxt := rfl
theorem x0_def (c : CurD) : and64 (xor64 (c.nxt.fdiv (2 ^ min 33 64)) (c.nxt.fdiv (2 ^ min 45 64))) 255 = c.x0 := rfl
theorem spec_l01Byte (b : List UInt8) (c : CurD) (hc : c.ok b) : CallA Tryd.prog 60 [.sc (.pt 1 0 0)] (c.hp b) (.sc (.int .i64 (c.bv b))) ((c.bn b).hp b) := by
 have hi := hc.1
 have hb := hc.2
 refine callA_of Tryd.func60 (by kernel_rfl) rfl fun E hE => run_den 400 ?_
 simp (disch := omega) only [Tryd.ntmps60, Tryd.results60, go_sem, ↓aInt_and, ↓aInt_xor, Nat.reduceEqDiff, Nat.reduceAdd, Nat.reduceSub, Int.reduceAdd, Int.reduceSub, Int.reduceToNat]
 simp only [nxt_def]
 refine den_draw1 [0, 1, 2, 3, 4, 5, 6, 7, 8, 9, 10, 11, 12] (by kernel_rfl) (qC) (by kernel_rfl) (runD_den 400 ?_)
 simp (disch := omega) only [go_sem, ↓aInt_and, ↓aInt_xor, Nat.reduceEqDiff, Nat.reduceAdd, Nat.reduceSub, Int.reduceAdd, Int.reduceSub, Int.reduceToNat]
 simp only [x0_def]
 have hx := and_255 (xor64 (c.nxt.fdiv (2 ^ min 33 64)) (c.nxt.fdiv (2 ^ min 45 64)))
 rw [x0_def] at hx
 have e1 : c.bv b = if h : c.i < b.length then and64 (IntKind.i64.wrap (c.x0 + b[c.i].toNat)) 255 else c.x0 := by rw [CurD.bv]
 have e2 : (c.bn b) = if c.i < b.length then ⟨c.i + 1, c.nxt⟩ else ⟨c.i, c.nxt⟩ := by rw [CurD.bn]
 generalize c.x0 = x0 at *
 generalize c.nxt = nx at *
 refine qG ?_
 refine qD [0, 1, 2, 3, 4, 5, 6, 7, 8, 9] ?_
 refine qG ?_
 refine qB (fun h => ?_) fun h => ?_
 ·have hbn := b[c.i].toNat_lt
  rw [dif_pos h, w64 (by omega)] at e1
  rw [if_pos h] at e2
  rw [e1, e2]
  refine den_draw1 [0, 1, 2, 3, 4, 5, 6, 7, 8, 9, 10, 11, 12, 13, 14] (by kernel_rfl) (qC) (by kernel_rfl) (runD_den 400 ?_)
  simp (disch := omega) only [go_sem, byteC, ↓aInt_and, ↓aInt_xor, Nat.reduceEqDiff, Nat.reduceAdd, Nat.reduceSub, Int.reduceAdd, Int.reduceSub, Int.reduceToNat]
  generalize and64 (x0 + b[c.i].toNat) 255 = y
  refine qG ?_
  exact qF (qA [0, 1])
 ·rw [dif_neg h] at e1
  rw [if_neg h] at e2
  rw [e1, e2]
  exact qF (qA [0, 1])
def CurD.below (c : CurD) (b : List UInt8) (n : Int) : Int × CurD :=
 if n ≤ 0 then (0, c) else if n ≤ 256 then ((c.bv b).tmod n, (c.bn b)) else ((c.bv b * 16777216 + (c.bn b).bv b * 65536 + ((c.bn b).bn b).bv b * 256 + (((c.bn b).bn b).bn b).bv b).tmod n, (((c.bn b).bn b).bn b).bn b)
theorem CurD.below_ok {b : List UInt8} {c : CurD} (h : c.ok b) (n : Int) : (c.below b n).2.ok b := by
 rw [CurD.below]
 split
 ·exact h
 ·split
  ·exact CurD.bn_ok h
  ·exact CurD.bn_ok (CurD.bn_ok (CurD.bn_ok (CurD.bn_ok h)))
theorem CurD.below_lt (c : CurD) (b : List UInt8) {n : Int} (h : 0 < n) : 0 ≤ (c.below b n).1 ∧ (c.below b n).1 < n := by
 have t : ∀ m : Int, 0 ≤ m → 0 ≤ m.tmod n ∧ m.tmod n < n := fun m hm => ⟨Int.tmod_nonneg _ hm, Int.tmod_lt_of_pos _ h⟩
 have h0 := c.bv_le b
 have h1 := (c.bn b).bv_le b
 have h2 := ((c.bn b).bn b).bv_le b
 have h3 := (((c.bn b).bn b).bn b).bv_le b
 rw [CurD.below, if_neg (by omega)]
 split
 ·exact t _ h0.1
 ·exact t _ (by omega)
theorem spec_l01Below (b : List UInt8) (c : CurD) (hc : c.ok b) (n : Int) : CallA Tryd.prog 46 [.sc (.pt 1 0 0), .sc (.int .i64 n)] (c.hp b) (.sc (.int .i64 (c.below b n).1)) ((c.below b n).2.hp b) := by
 have h0 := c.bv_le b
 have h1 := (c.bn b).bv_le b
 have h2 := ((c.bn b).bn b).bv_le b
 have h3 := (((c.bn b).bn b).bn b).bv_le b
 have k1 := CurD.bn_ok hc
 have k2 := CurD.bn_ok k1
 have k3 := CurD.bn_ok k2
 obtain ⟨r, hr⟩ : ∃ r, r = c.below b n := ⟨_, rfl⟩
 rw [← hr]
 rw [CurD.below] at hr
 refine qE Tryd.func46 Tryd.ntmps46 Tryd.results46 fun E hE => ?_
 refine qB (fun h => ?_) fun h => ?_
 ·rw [if_pos (by omega)] at hr
  subst hr
  exact qF (qA [0, 1])
 ·rw [if_neg (by omega)] at hr
  refine qB (fun h4 => ?_) fun h4 => ?_
  ·rw [if_pos (by omega)] at hr
   refine qK (spec_l01Byte b c hc) (qA [0, 1]) ?_
   subst hr
   exact qF (qA [0, 1])
  ·rw [if_neg (by omega)] at hr
   refine qK (spec_l01Byte b c hc) (qA [0, 1]) ?_
   refine qK (spec_l01Byte b (c.bn b) k1) (qA [0, 1]) ?_
   refine qK (spec_l01Byte b ((c.bn b).bn b) k2) (qA [0, 1]) ?_
   refine qK (spec_l01Byte b (((c.bn b).bn b).bn b) k3) (qA [0, 1]) ?_
   subst hr
   exact qF (qA [0, 1])
theorem spec_l01Once (b : List UInt8) (c : CurD) (hc : c.ok b) (n : Int) : CallA Tryd.prog 53 [.sc (.pt 1 0 0), .sc (.int .i64 n)] (c.hp b) (.sc (.bo ((c.below b n).1 == 0))) ((c.below b n).2.hp b) := by
 refine qE Tryd.func53 Tryd.ntmps53 Tryd.results53 fun E hE => ?_
 refine qK (spec_l01Below b c hc n) (qA [0, 1]) ?_
 exact qF (qA [0, 1])
def CurD.pick (c : CurD) (b : List UInt8) (l : List Int) : Int := l.getD (c.below b l.length).1.toNat 0
theorem spec_l01PickInt (b : List UInt8) (c : CurD) (hc : c.ok b) (l : List Int) (h0 : 0 < l.length) (hl : l.length ≤ 1000) : CallA Tryd.prog 47 [.sc (.pt 1 0 0), .sc (.sl 2 0 l.length)] (c.hp b ++ [some ⟨l.map intC, 1, 3, false, true⟩]) (.sc (.int .i64 (c.pick b l))) (((c.below b l.length).2.hp b) ++ [some ⟨l.map intC, 1, 3, false, true⟩]) := by
 have hb := c.below_lt b (n := (l.length : Int)) (by omega)
 have hp : c.pick b l = l.getD (c.below b l.length).1.toNat 0 := rfl
 have hk := spec_l01Below b c hc l.length
 rw [hp]
 generalize c.below b l.length = r at *
 obtain ⟨v, c1⟩ := r
 dsimp only at hb hk ⊢
 obtain ⟨k, rfl⟩ := Int.eq_ofNat_of_zero_le hb.1
 refine qE Tryd.func47 Tryd.ntmps47 Tryd.results47 fun E hE => ?_
 refine qK (hk) (qA [0, 1]) ?_
 have hlt : k < l.length := by omega
 try simp (disch := omega) only [go_sem, Nat.reduceEqDiff, Nat.reduceAdd, Nat.reduceSub, Int.reduceAdd, Int.reduceSub, Int.reduceToNat, getD_at' _ hlt]
 exact qF (qA [0, 1, 2])
theorem CurD.pick_mem (c : CurD) (b : List UInt8) {l : List Int} (h : 0 < l.length) : c.pick b l ∈ l := by
 have hb := c.below_lt b (n := (l.length : Int)) (by omega)
 rw [CurD.pick, List.getD_eq_getElem?_getD, List.getElem?_eq_getElem (by omega)]
 exact List.getElem_mem _
def stepH (h : Int) (x : UInt8) : Int := and64 (IntKind.i64.wrap (IntKind.i64.wrap (IntKind.i64.wrap (h * 131) + x.toNat) + 7)) 1073741823
def newH (b : List UInt8) : Int := (b.take 4000).foldl stepH (94701 + (b.length : Int))
def newCur (b : List UInt8) : CurD := ⟨0, newH b⟩
theorem newCur_ok {b : List UInt8} (h : b.length ≤ 1048576) : (newCur b).ok b := ⟨Nat.zero_le _, h⟩
theorem newH_step {b : List UInt8} {k : Nat} {h0 : Int} (h : k < b.length) : (b.take (k + 1)).foldl stepH h0 = stepH ((b.take k).foldl stepH h0) b[k] := by
 rw [List.take_succ_eq_append_getElem h, List.foldl_append]
 rfl
theorem spec_l01New (b : List UInt8) (hb : b.length ≤ 1048576) : CallA Tryd.prog 18 [.sc (.sl 0 0 b.length)] [some ⟨b.map byteC, 1, 5, false, true⟩] (.sc (.pt 1 0 0)) ((newCur b).hp b) := by
 refine qE Tryd.func18 Tryd.ntmps18 Tryd.results18 fun E hE => ?_
 refine den_lp 1 hE (fun s (k : Nat) => s.at [5, 6, 7, 8, 9, 10, 11, 12, 13, 14, 15, 16, 17, 18, 19, 20, 21, 22, 23, 24, 25, 26, 27] [(4, .sc (.int .i64 (k : Nat))), (3, .sc (.int .i64 ((b.take k).foldl stepH (94701 + (b.length : Int)))))] (s.hp)) (fun (k : Nat) => k ≤ b.length ∧ k ≤ 4000) (fun (k : Nat) => b.length - k) 0 (qA [0]) (qC) (⟨Nat.zero_le _, Nat.zero_le _⟩) (weak_mk (by rfl) (by rfl) ?_) fun k hk N hN => ?_
 ·refine qX ?_
  rfl
 ·refine qR ?_
  refine qB (fun h1 => ?_) fun h1 => ?_
  ·split <;> rename_i h2 <;> simp only [decide_eq_true_eq, decide_eq_false_iff_not] at h2
   ·simp (disch := omega) only [go_sem, byteC, ↓aInt_and, Nat.reduceEqDiff, Nat.reduceAdd, Nat.reduceSub, Int.reduceAdd, Int.reduceSub, Int.reduceToNat]
    refine ⟨qC, hN _ (k + 1) (qA [0]) (by (try dsimp only); exact ⟨by omega, by omega⟩) (by (try dsimp only); omega) (weak_mk (by rfl) (by rfl) ?_)⟩
    refine qX ?_
    rw [newH_step h1, w64 (n := (b[k].toNat : Int)) (by have := b[k].toNat_lt; omega)]
    rfl
   ·have e : newH b = (b.take k).foldl stepH (94701 + (b.length : Int)) := by
     rw [newH, show k = 4000 by omega]
    refine qX ?_
    refine qJ (qA [0, 1]) ?_
    rw [newCur, e]
    exact ⟨rfl, rfl⟩
  ·have e : newH b = (b.take k).foldl stepH (94701 + (b.length : Int)) := by
    rw [newH, List.take_of_length_le (by omega), List.take_of_length_le (by omega)]
   refine qJ (qA [0, 1]) ?_
   rw [newCur, e]
   exact ⟨rfl, rfl⟩
end
section
open Go.RowKit

def pols : List PolicyD := [⟨1, 0⟩, ⟨2, 1⟩, ⟨2, 2⟩, ⟨2, 3⟩, ⟨2, 4⟩, ⟨3, 0⟩]
theorem spec_l12Policy (b : List UInt8) (c : CurD) (hc : c.ok b) : ∃ (p : PolicyD) (c' : CurD), c'.ok b ∧ p ∈ pols ∧ CallA Tryd.prog 56 [.sc (.pt 1 0 0)] (c.hp b) (.ag p.cs) (c'.hp b) := by
 have h3 := spec_l01Below b c hc 3
 have o3 := CurD.below_ok hc 3
 have b3 := c.below_lt b (n := 3) (by omega)
 generalize c.below b 3 = r3 at h3 o3 b3
 obtain ⟨v, c1⟩ := r3
 dsimp only at h3 o3 b3
 have hv : v = 0 ∨ v = 1 ∨ v = 2 := by omega
 rcases hv with rfl | rfl | rfl
 ·refine ⟨⟨1, 0⟩, c1, o3, by decide, ?_⟩
  refine qE Tryd.func56 Tryd.ntmps56 Tryd.results56 fun E hE => ?_
  refine qK (h3) (qA [0, 1]) ?_
  exact qF (qA [0, 1])
 ·have h4 := spec_l01Below b c1 o3 4
  have o4 := CurD.below_ok o3 4
  have b4 := c1.below_lt b (n := 4) (by omega)
  generalize c1.below b 4 = r4 at h4 o4 b4
  obtain ⟨u, c2⟩ := r4
  dsimp only at h4 o4 b4
  refine ⟨⟨2, 1 + u⟩, c2, o4, ?_, ?_⟩
  ·have hu : u = 0 ∨ u = 1 ∨ u = 2 ∨ u = 3 := by omega
   rcases hu with rfl | rfl | rfl | rfl <;> decide
  ·refine qE Tryd.func56 Tryd.ntmps56 Tryd.results56 fun E hE => ?_
   refine qK (h3) (qA [0, 1]) ?_
   refine qK (h4) (qA [0, 1]) ?_
   exact qF (qA [0, 1])
 ·refine ⟨⟨3, 0⟩, c1, o3, by decide, ?_⟩
  refine qE Tryd.func56 Tryd.ntmps56 Tryd.results56 fun E hE => ?_
  refine qK (h3) (qA [0, 1]) ?_
  exact qF (qA [0, 1])
end
section
def decGo (n : Nat) (acc : List UInt8) : List UInt8 :=
 if h : n < 10 then UInt8.ofNat (48 + n) :: acc else decGo (n / 10) (UInt8.ofNat (48 + n % 10) :: acc)
termination_by n
decreasing_by omega
def dec (n : Int) : List UInt8 := if n < 0 then 45 :: decGo n.natAbs [] else decGo n.natAbs []
theorem decGo_lt (n : Nat) (acc : List UInt8) : acc.length < (decGo n acc).length := by
 induction n using Nat.strongRecOn generalizing acc with
 | _ n ih =>
  rw [decGo]
  split
  ·simp
  ·have := ih (n / 10) (by omega) (UInt8.ofNat (48 + n % 10) :: acc)
   simp only [List.length_cons] at this
   omega
theorem decGo_le (k : Nat) : ∀ (n : Nat) (acc : List UInt8), n < 10 ^ (k + 1) → (decGo n acc).length ≤ acc.length + (k + 1) := by
 induction k with
 | zero =>
  intro n acc h
  rw [decGo, dif_pos (by omega)]
  simp
 | succ k ih =>
  intro n acc h
  rw [decGo]
  split
  ·simp
  ·have := ih (n / 10) (UInt8.ofNat (48 + n % 10) :: acc) (by rw [Nat.pow_succ] at h; omega)
   simp only [List.length_cons] at this
   omega
theorem decGo_20 {n : Int} (h : I64 n) : (decGo n.natAbs []).length ≤ 20 := by
 have h' : -9223372036854775808 ≤ n ∧ n ≤ 9223372036854775807 := h
 have := decGo_le 19 n.natAbs [] (by omega)
 simpa using this
def figB (n : Nat) : UInt8 := UInt8.ofNat (if n < 10 then 48 + n else 87 + n)
theorem figB_get {n : Nat} (h : n < 16) : ([48, 49, 50, 51, 52, 53, 54, 55, 56, 57, 97, 98, 99, 100, 101, 102] : List UInt8).getD n 0 = figB n := by
 have : ∀ m : Fin 16, ([48, 49, 50, 51, 52, 53, 54, 55, 56, 57, 97, 98, 99, 100, 101, 102] : List UInt8).getD m.1 0 = figB m.1 := by decide
 exact this ⟨n, h⟩
theorem figB_at {n : Nat} (h : n < ([48, 49, 50, 51, 52, 53, 54, 55, 56, 57, 97, 98, 99, 100, 101, 102] : List UInt8).length) : ([48, 49, 50, 51, 52, 53, 54, 55, 56, 57, 97, 98, 99, 100, 101, 102] : List UInt8)[n] = figB n := by
 rw [← figB_get h, List.getD_eq_getElem?_getD, List.getElem?_eq_getElem h]
 rfl
def hexL (l : List UInt8) : List UInt8 := l.flatMap fun b => [figB (b.toNat / 16), figB (b.toNat % 16)]
def hexR (l : List UInt8) : List UInt8 := if l.length ≤ 20000 then hexL l else []
theorem hexL_length (l : List UInt8) : (hexL l).length = 2 * l.length := by
 induction l with
 | nil => rfl
 | cons a l ih => simp only [hexL, List.flatMap_cons, List.length_append, List.length_cons, List.length_nil] at ih ⊢; omega
theorem hexL_take {l : List UInt8} {k : Nat} (h : k < l.length) : hexL (l.take (k + 1)) = hexL (l.take k) ++ [figB (l[k].toNat / 16), figB (l[k].toNat % 16)] := by
 rw [List.take_succ_eq_append_getElem h]
 simp only [hexL, List.flatMap_append, List.flatMap_cons, List.flatMap_nil, List.append_nil]
def hexV (b : UInt8) : Int := if 48 ≤ b.toNat ∧ b.toNat ≤ 57 then b.toNat - 48 else if 97 ≤ b.toNat ∧ b.toNat ≤ 102 then b.toNat - 87 else -1
def unhexGo (acc : List UInt8) : List UInt8 → Option (List UInt8)
 | a :: b :: r => if hexV a < 0 ∨ hexV b < 0 then none else unhexGo (acc ++ [UInt8.ofNat (16 * hexV a + hexV b).toNat]) r
 | _ => some acc
def unhexR : Option (List UInt8) → List UInt8 × Bool
 | none => ([], false)
 | some r => (r, true)
def unhex (l : List UInt8) : List UInt8 × Bool := if l.length % 2 ≠ 0 ∨ l.length / 2 > 20000 then ([], false) else unhexR (unhexGo [] l)
def rdGo (acc : Int) : List UInt8 → Option Int
 | [] => some acc
 | b :: r => if b.toNat < 48 ∨ 57 < b.toNat then none else rdGo (10 * acc + b.toNat - 48) r
def readR (l : List UInt8) : Option Int → Int × Bool
 | none => (0, false)
 | some n => if n > 1000000000 ∨ dec n ≠ l then (0, false) else (n, true)
def readDec (l : List UInt8) : Int × Bool := if l.length > 10 then (0, false) else readR l (rdGo 0 l)
def cutGo (y : UInt8) (acc : List (List UInt8)) (cur : List UInt8) : List UInt8 → List (List UInt8)
 | [] => acc ++ [cur]
 | b :: r => if b = y then cutGo y (acc ++ [cur]) [] r else cutGo y acc (cur ++ [b]) r
def cutL (y : UInt8) (l : List UInt8) : List (List UInt8) := cutGo y [] [] l
theorem cutGo_step {y : UInt8} {acc : List (List UInt8)} {cur l : List UInt8} {k : Nat} (h : k < l.length) : cutGo y acc cur (l.drop k) = if l[k] = y then cutGo y (acc ++ [cur]) [] (l.drop (k + 1)) else cutGo y acc (cur ++ [l[k]]) (l.drop (k + 1)) := by
 rw [List.drop_eq_getElem_cons h, cutGo]
def app1 (acc : List (List UInt8)) (cur : List UInt8) : List (List UInt8) := if cur = [] then acc else acc ++ [cur]
def partsGo (acc : List (List UInt8)) (cur : List UInt8) : List UInt8 → Option (List (List UInt8))
 | [] => some (app1 acc cur)
 | b :: r => if b.toNat < 32 ∨ 126 < b.toNat then none else if b = 32 then partsGo (app1 acc cur) [] r else partsGo acc (cur ++ [b]) r
theorem partsGo_step {acc : List (List UInt8)} {cur l : List UInt8} {k : Nat} (h : k < l.length) : partsGo acc cur (l.drop k) = if l[k].toNat < 32 ∨ 126 < l[k].toNat then none else if l[k] = 32 then partsGo (app1 acc cur) [] (l.drop (k + 1)) else partsGo acc (cur ++ [l[k]]) (l.drop (k + 1)) := by
 rw [List.drop_eq_getElem_cons h, partsGo]
def partsR : Option (List (List UInt8)) → List (List UInt8) × Bool
 | none => ([], false)
 | some p => if 12 < p.length then ([], false) else (p, true)
def partsL (l : List UInt8) : List (List UInt8) × Bool := if 600 < l.length then ([], false) else partsR (partsGo [] [] l)
def joinGo (y : List UInt8) (k : Nat) (acc : List UInt8) : List (List UInt8) → List UInt8
 | [] => acc
 | s :: r => joinGo y (k + 1) ((if 0 < k then acc ++ y else acc) ++ s) r
def joinL (y : List UInt8) (l : List (List UInt8)) : List UInt8 := joinGo y 0 [] l
theorem joinGo_step {y acc : List UInt8} {l : List (List UInt8)} {k : Nat} (h : k < l.length) : joinGo y k acc (l.drop k) = joinGo y (k + 1) ((if 0 < k then acc ++ y else acc) ++ l[k]) (l.drop (k + 1)) := by
 rw [List.drop_eq_getElem_cons h, joinGo]
theorem joinGo_le {y : List UInt8} : ∀ {l : List (List UInt8)} {k : Nat} {acc : List UInt8}, acc.length ≤ (joinGo y k acc l).length
 | [], k, acc => Nat.le_refl _
 | s :: r, k, acc => by
  rw [joinGo]
  refine Nat.le_trans ?_ joinGo_le
  split <;> simp <;> omega
theorem app1_pos {acc : List (List UInt8)} {l : List UInt8} {k b : Nat} (hk : k ≤ l.length) (h : b < k) : app1 acc ((l.take k).drop b) = acc ++ [(l.take k).drop b] := by
 rw [app1, if_neg]
 intro e
 have := congrArg List.length e
 simp at this
 omega
theorem drop_take_self {l : List UInt8} {k b : Nat} (h : k ≤ b) : (l.take k).drop b = [] := by
 rw [List.drop_eq_nil_of_le]
 simp
 omega
theorem dec_le {n : Int} (h : I64 n) : (dec n).length ≤ 21 := by
 have := decGo_20 h
 rw [dec]
 split
 ·simp; omega
 ·omega
def isN (n : Int) : Bool := decide (0 ≤ n) && decide (n ≤ 1000000000)
def inR (n a b : Int) : Bool := decide (a ≤ n) && decide (n ≤ b)
def letNums (x : LetterD) : List Int := [x.frm, x.to, x.port, x.key, x.token, x.nonce, x.give, x.sgn, x.id, x.addr, x.pos, x.tag.kind, x.tag.one, x.tag.two, x.tag.a, x.tag.b]
def letOk (x : LetterD) : Bool := inR x.kind 1 13 && (letNums x).all isN && decide (x.text.length ≤ 20)
def letInts (x : LetterD) : List Int := [x.kind, x.frm, x.to, x.port, x.key, x.token, x.nonce, x.give, x.sgn, x.tag.kind, x.tag.one, x.tag.two, x.tag.a, x.tag.b, x.id, x.addr, cond x.spare 1 0, x.pos]
def wordGo (acc : List UInt8) : List Int → List UInt8
 | [] => acc
 | n :: r => wordGo (acc ++ (dec n ++ [44])) r
theorem wordGo_step {acc : List UInt8} {l : List Int} {k : Nat} (h : k < l.length) : wordGo acc (l.drop k) = wordGo (acc ++ (dec l[k] ++ [44])) (l.drop (k + 1)) := by
 rw [List.drop_eq_getElem_cons h, wordGo]
def letWord (x : LetterD) : List UInt8 := if letOk x then wordGo [] (letInts x) ++ hexR x.text else []
theorem letInts_wf {x : LetterD} (h : x.wf) : ∀ n ∈ letInts x, I64 n := by
 obtain ⟨h1, h2, h3, h4, h5, h6, h7, h8, h9, h10, h11, h12, h13, h14, h15, h16, h17, _⟩ := h
 intro n hn
 simp only [letInts, List.mem_cons, List.not_mem_nil, or_false] at hn
 rcases hn with rfl | rfl | rfl | rfl | rfl | rfl | rfl | rfl | rfl | rfl | rfl | rfl | rfl | rfl | rfl | rfl | rfl | rfl <;> first | assumption | (cases x.spare <;> decide)
def ptrOf (k : Nat) : List Sc := if k = 16 then [.pt 1 0 0] else [.pt 0 0 k]
def ptrL : List (List Sc) := (List.range 18).map ptrOf
theorem ptrL_eq : ptrL = [[.pt 0 0 0], [.pt 0 0 1], [.pt 0 0 2], [.pt 0 0 3], [.pt 0 0 4], [.pt 0 0 5], [.pt 0 0 6], [.pt 0 0 7], [.pt 0 0 8], [.pt 0 0 9], [.pt 0 0 10], [.pt 0 0 11], [.pt 0 0 12], [.pt 0 0 13], [.pt 0 0 14], [.pt 0 0 15], [.pt 1 0 0], [.pt 0 0 17]] := rfl
theorem ptrL_get {k : Nat} (h : k < 18) : ptrL[k]? = some (ptrOf k) := by simp [ptrL, h]
theorem ptrOf_16 : ptrOf 16 = [.pt 1 0 0] := rfl
theorem ptrOf_ne {k : Nat} (h : k ≠ 16) : ptrOf k = [.pt 0 0 k] := if_neg h
theorem letCell (x : LetterD) {k : Nat} (h : k < (letInts x).length) (h16 : k ≠ 16) : x.cs[k]? = some (.int .i64 (letInts x)[k]) := by
 have h18 : k < 18 := h
 match k, h18, h16 with
 | 0, _, _ | 1, _, _ | 2, _, _ | 3, _, _ | 4, _, _ | 5, _, _ | 6, _, _ | 7, _, _ | 8, _, _ | 9, _, _ | 10, _, _ | 11, _, _ | 12, _, _ | 13, _, _ | 14, _, _ | 15, _, _ | 17, _, _ => rfl
 | 16, _, h => exact absurd rfl h
 | n + 18, h, _ => exact absurd h (by omega)
theorem hexR_le (l : List UInt8) : (hexR l).length ≤ 40000 := by
 rw [hexR]
 split
 ·rw [hexL_length]; omega
 ·simp
def polOk (p : PolicyD) : Bool := if p.kind = 2 then inR p.many 1 8 else (p.kind == 1 || p.kind == 3) && p.many == 0
def polLine (p : PolicyD) : List UInt8 := if polOk p then (if p.kind = 1 then [109, 101, 115, 104] else if p.kind = 3 then [111, 110, 101] else [109, 97, 110, 121, 32] ++ dec p.many) else []
def sameB (a : List UInt8) (parts : List (List UInt8)) : Bool := (partsL a).2 && !(a == []) && joinL [32] (partsL a).1 == joinL [32] parts && (partsL a).1.length == parts.length
def tot (l : List (List UInt8)) : Nat := (l.map List.length).sum
theorem tot_app (l : List (List UInt8)) (c : List UInt8) : tot (l ++ [c]) = tot l + c.length := by simp [tot]
theorem joinGo_len {y : List UInt8} : ∀ {l : List (List UInt8)} {k : Nat} {acc : List UInt8}, (joinGo y k acc l).length ≤ acc.length + tot l + l.length * y.length
 | [], k, acc => by simp [joinGo, tot]
 | s :: r, k, acc => by
  rw [joinGo]
  refine Nat.le_trans joinGo_len ?_
  simp only [tot, List.map_cons, List.sum_cons, List.length_cons, List.length_append, Nat.add_mul, Nat.one_mul]
  split <;> (try simp only [List.length_append]) <;> omega
theorem joinL_len {y : List UInt8} {l : List (List UInt8)} : (joinL y l).length ≤ tot l + l.length * y.length := by
 have := joinGo_len (y := y) (l := l) (k := 0) (acc := [])
 simpa [joinL] using this
theorem app1_tot (acc : List (List UInt8)) (cur : List UInt8) : tot (app1 acc cur) ≤ tot acc + cur.length := by
 rw [app1]
 split
 ·omega
 ·rw [tot_app]; omega
theorem partsGo_tot : ∀ {l : List UInt8} {acc : List (List UInt8)} {cur : List UInt8} {p : List (List UInt8)}, partsGo acc cur l = some p → tot p ≤ tot acc + cur.length + l.length
 | [], acc, cur, p, h => by
  simp only [partsGo, Option.some.injEq] at h
  subst h
  have := app1_tot acc cur
  simpa using this
 | b :: r, acc, cur, p, h => by
  rw [partsGo] at h
  split at h
  ·cases h
  ·split at h
   ·have := partsGo_tot h
    have h2 := app1_tot acc cur
    simp only [List.length_nil, List.length_cons] at this ⊢
    omega
   ·have := partsGo_tot h
    simp only [List.length_append, List.length_cons, List.length_nil] at this ⊢
    omega
theorem partsL_tot (a : List UInt8) : tot (partsL a).1 ≤ 600 ∧ (partsL a).1.length ≤ 12 := by
 rw [partsL]
 split
 ·simp [tot]
 ·cases h : partsGo [] [] a with
  | none => simp [partsR, tot]
  | some p =>
   have := partsGo_tot h
   rw [partsR]
   split
   ·simp [tot]
   ·simp [tot] at this ⊢
    omega
theorem partsL_join (a : List UInt8) : (joinL [32] (partsL a).1).length ≤ 612 := by
 have := joinL_len (y := [32]) (l := (partsL a).1)
 obtain ⟨h1, h2⟩ := partsL_tot a
 simp only [List.length_singleton, Nat.mul_one] at this
 omega
def Clean (l : List (List UInt8)) : Prop := ∀ s ∈ l, s ≠ [] ∧ ∀ b ∈ s, 32 < b.toNat ∧ b.toNat ≤ 126
theorem partsGo_clean : ∀ {l : List UInt8} {acc : List (List UInt8)} {cur : List UInt8} {p : List (List UInt8)}, Clean acc → (∀ b ∈ cur, 32 < b.toNat ∧ b.toNat ≤ 126) → partsGo acc cur l = some p → Clean p
 | [], acc, cur, p, ha, hc, h => by
  simp only [partsGo, Option.some.injEq] at h
  subst h
  rw [app1]
  split
  ·exact ha
  ·rename_i hne
   intro s hs
   rcases List.mem_append.1 hs with hs | hs
   ·exact ha s hs
   ·simp at hs; subst hs; exact ⟨hne, hc⟩
 | b :: r, acc, cur, p, ha, hc, h => by
  rw [partsGo] at h
  split at h
  ·cases h
  ·rename_i hb
   split at h
   ·refine partsGo_clean ?_ (by simp) h
    rw [app1]
    split
    ·exact ha
    ·rename_i hne
     intro s hs
     rcases List.mem_append.1 hs with hs | hs
     ·exact ha s hs
     ·simp at hs; subst hs; exact ⟨hne, hc⟩
   ·rename_i h32
    refine partsGo_clean ha (fun x hx => ?_) h
    rcases List.mem_append.1 hx with hx | hx
    ·exact hc x hx
    ·simp at hx; subst hx
     have : x.toNat ≠ 32 := fun e => h32 (UInt8.toNat_inj.1 e)
     omega
theorem partsL_clean (a : List UInt8) : Clean (partsL a).1 := by
 rw [partsL]
 split
 ·intro s hs; simp at hs
 ·cases h : partsGo [] [] a with
  | none => intro s hs; simp [partsR] at hs
  | some p =>
   rw [partsR]
   split
   ·intro s hs; simp at hs
   ·exact partsGo_clean (fun s hs => by simp at hs) (by simp) h
theorem partsGo_word : ∀ {s r cur : List UInt8} {acc : List (List UInt8)}, (∀ b ∈ s, 32 < b.toNat ∧ b.toNat ≤ 126) → partsGo acc cur (s ++ r) = partsGo acc (cur ++ s) r
 | [], r, cur, acc, _ => by simp
 | b :: s, r, cur, acc, h => by
  have hb := h b (by simp)
  have h32 : b ≠ 32 := fun e => by subst e; exact absurd hb.1 (by decide)
  rw [List.cons_append, partsGo, if_neg (by omega), if_neg h32, partsGo_word (fun x hx => h x (by simp [hx]))]
  simp
theorem joinGo_pos {y : List UInt8} : ∀ {l : List (List UInt8)} {k : Nat} {acc : List UInt8}, 0 < k → joinGo y k acc l = acc ++ l.flatMap (y ++ ·)
 | [], k, acc, _ => by simp [joinGo]
 | s :: r, k, acc, h => by
  rw [joinGo, if_pos h, joinGo_pos (by omega)]
  simp
theorem joinL_cons {y s : List UInt8} {r : List (List UInt8)} : joinL y (s :: r) = s ++ r.flatMap (y ++ ·) := by
 rw [joinL, joinGo, joinGo_pos (by omega)]
 simp
theorem partsGo_rest : ∀ {r : List (List UInt8)} {acc : List (List UInt8)} {cur : List UInt8}, cur ≠ [] → Clean r → partsGo acc cur (r.flatMap ([32] ++ ·)) = some (acc ++ cur :: r)
 | [], acc, cur, h, _ => by simp [partsGo, app1, h]
 | s :: r, acc, cur, h, hr => by
  obtain ⟨h1, h2⟩ := hr s (by simp)
  rw [List.flatMap_cons, List.append_assoc, List.singleton_append, partsGo, if_neg (by decide), if_pos rfl, app1, if_neg h, partsGo_word h2, partsGo_rest (by simpa using h1) (fun x hx => hr x (by simp [hx]))]
  simp
theorem parts_join {l : List (List UInt8)} (h : Clean l) : partsGo [] [] (joinL [32] l) = some l := by
 cases l with
 | nil => simp [joinL, joinGo, partsGo, app1]
 | cons s r =>
  obtain ⟨h1, h2⟩ := h s (by simp)
  rw [joinL_cons, partsGo_word h2, partsGo_rest (by simpa using h1) (fun x hx => h x (by simp [hx]))]
  simp
theorem join_inj {l m : List (List UInt8)} (hl : Clean l) (hm : Clean m) (h : joinL [32] l = joinL [32] m) : l = m := by
 have h1 := parts_join hl
 rw [h, parts_join hm] at h1
 simpa using h1.symm
def numAt (l : List (List UInt8)) (n : Nat) : Int := if h : n < l.length then (readDec l[n]).1 else 0
def cands : List PolicyD := [⟨1, 0⟩, ⟨3, 0⟩, ⟨2, 1⟩, ⟨2, 2⟩, ⟨2, 3⟩, ⟨2, 4⟩, ⟨2, 5⟩, ⟨2, 6⟩, ⟨2, 7⟩, ⟨2, 8⟩]
def polNone : PolicyD := ⟨0, 0⟩
def readGo (parts : List (List UInt8)) : List PolicyD → PolicyD × Bool
 | [] => (polNone, false)
 | c :: r => if sameB (polLine c) parts then (c, true) else readGo parts r
def cpOf (c : PolicyD) : List (List UInt8) := if c.kind = 1 then [[109, 101, 115, 104]] else if c.kind = 3 then [[111, 110, 101]] else [[109, 97, 110, 121], [UInt8.ofNat (48 + c.many.toNat)]]
theorem dec_digit {n : Nat} (h : n < 10) : dec n = [UInt8.ofNat (48 + n)] := by
 rw [dec, if_neg (by omega), Int.natAbs_natCast, decGo, dif_pos h]
theorem cand_facts : ∀ c ∈ cands, polLine c = joinL [32] (cpOf c) ∧ partsGo [] [] (joinL [32] (cpOf c)) = some (cpOf c) ∧ (joinL [32] (cpOf c)).length ≤ 600 ∧ (cpOf c).length ≤ 2 ∧ joinL [32] (cpOf c) ≠ [] ∧ Clean (cpOf c) ∧ polOk c = true := by
 have d1 : dec 1 = [49] := dec_digit (n := 1) (by omega)
 have d2 : dec 2 = [50] := dec_digit (n := 2) (by omega)
 have d3 : dec 3 = [51] := dec_digit (n := 3) (by omega)
 have d4 : dec 4 = [52] := dec_digit (n := 4) (by omega)
 have d5 : dec 5 = [53] := dec_digit (n := 5) (by omega)
 have d6 : dec 6 = [54] := dec_digit (n := 6) (by omega)
 have d7 : dec 7 = [55] := dec_digit (n := 7) (by omega)
 have d8 : dec 8 = [56] := dec_digit (n := 8) (by omega)
 intro c hc
 simp only [cands, List.mem_cons, List.not_mem_nil, or_false] at hc
 have key : ∀ (c : PolicyD), polLine c = joinL [32] (cpOf c) → Clean (cpOf c) → (joinL [32] (cpOf c)).length ≤ 600 ∧ (cpOf c).length ≤ 2 ∧ joinL [32] (cpOf c) ≠ [] → polOk c = true → polLine c = joinL [32] (cpOf c) ∧ partsGo [] [] (joinL [32] (cpOf c)) = some (cpOf c) ∧ (joinL [32] (cpOf c)).length ≤ 600 ∧ (cpOf c).length ≤ 2 ∧ joinL [32] (cpOf c) ≠ [] ∧ Clean (cpOf c) ∧ polOk c = true :=
  fun c h1 h2 h3 h4 => ⟨h1, parts_join h2, h3.1, h3.2.1, h3.2.2, h2, h4⟩
 rcases hc with rfl | rfl | rfl | rfl | rfl | rfl | rfl | rfl | rfl | rfl <;> refine key _ ?_ ?_ ?_ (by decide) <;> first | decide | (simp [polLine, polOk, inR, d1, d2, d3, d4, d5, d6, d7, d8]; decide) | (intro s hs; revert s; decide)
theorem cand_parts {c : PolicyD} (hc : c ∈ cands) : partsL (polLine c) = (cpOf c, true) := by
 obtain ⟨h1, h2, h3, h4, _⟩ := cand_facts c hc
 rw [h1, partsL, if_neg (by omega), h2, partsR, if_neg (by omega)]
theorem sameB_cand {c : PolicyD} (hc : c ∈ cands) {parts : List (List UInt8)} (hp : Clean parts) : sameB (polLine c) parts = decide (parts = cpOf c) := by
 obtain ⟨h1, h2, h3, h4, h5, h6, _⟩ := cand_facts c hc
 rw [sameB, cand_parts hc]
 have e : (polLine c == []) = false := by rw [h1]; simpa using h5
 rw [e]
 by_cases h : parts = cpOf c
 ·subst h; simp
 ·have : joinL [32] (cpOf c) ≠ joinL [32] parts := fun he => h (join_inj hp h6 he.symm)
  simp [this, h]
theorem cp_inj : ∀ c ∈ cands, ∀ d ∈ cands, cpOf c = cpOf d → c = d := by decide
theorem readGo_none {parts : List (List UInt8)} (hp : Clean parts) : ∀ {l : List PolicyD}, (∀ c ∈ l, c ∈ cands) → (∀ c ∈ l, parts ≠ cpOf c) → readGo parts l = (polNone, false)
 | [], _, _ => rfl
 | c :: r, h, hn => by
  rw [readGo, sameB_cand (h c (by simp)) hp, if_neg (by simpa using hn c (by simp)), readGo_none hp (fun x hx => h x (by simp [hx])) (fun x hx => hn x (by simp [hx]))]
theorem readGo_some {parts : List (List UInt8)} (hp : Clean parts) {d : PolicyD} (hd : parts = cpOf d) (hdc : d ∈ cands) : ∀ {l : List PolicyD}, (∀ c ∈ l, c ∈ cands) → d ∈ l → readGo parts l = (d, true)
 | [], _, hm => by simp at hm
 | c :: r, h, hm => by
  rw [readGo, sameB_cand (h c (by simp)) hp]
  by_cases he : parts = cpOf c
  ·rw [if_pos (by simpa using he)]
   have : c = d := cp_inj c (h c (by simp)) d hdc (by rw [← he, hd])
   rw [this]
  ·rw [if_neg (by simpa using he)]
   have hne : d ≠ c := fun e => he (by rw [hd, e])
   exact readGo_some hp hd hdc (fun x hx => h x (by simp [hx])) (by simpa [hne] using hm)
theorem polOk_cand {p : PolicyD} (h : polOk p = true) : p ∈ cands := by
 obtain ⟨k, m⟩ := p
 by_cases h2 : k = 2
 ·subst h2
  simp [polOk, inR] at h
  obtain ⟨h1, h8⟩ := h
  obtain ⟨n, rfl⟩ := Int.eq_ofNat_of_zero_le (show 0 ≤ m by omega)
  have : n = 1 ∨ n = 2 ∨ n = 3 ∨ n = 4 ∨ n = 5 ∨ n = 6 ∨ n = 7 ∨ n = 8 := by omega
  rcases this with rfl | rfl | rfl | rfl | rfl | rfl | rfl | rfl <;> decide
 ·simp [polOk, h2] at h
  obtain ⟨h1 | h1, rfl⟩ := h <;> subst h1 <;> decide
theorem rdGo_nn : ∀ {l : List UInt8} {a n : Int}, 0 ≤ a → rdGo a l = some n → 0 ≤ n
 | [], a, n, h, h1 => by simp [rdGo] at h1; omega
 | b :: r, a, n, h, h1 => by
  rw [rdGo] at h1
  split at h1
  ·cases h1
  ·exact rdGo_nn (by omega) h1
theorem readDec_wf (l : List UInt8) : I64 (readDec l).1 := by
 rw [readDec]
 split
 ·exact ⟨by decide, by decide⟩
 ·cases h : rdGo 0 l with
  | none => exact ⟨by show (-9223372036854775808 : Int) ≤ 0; decide, by show (0 : Int) ≤ 9223372036854775807; decide⟩
  | some n =>
   have := rdGo_nn (Int.le_refl 0) h
   rw [readR]
   split
   ·exact ⟨by decide, by decide⟩
   ·exact ⟨by show -9223372036854775808 ≤ n; omega, by show n ≤ 9223372036854775807; omega⟩
theorem cand_wf : ∀ c ∈ cands, c.wf := by
 intro c hc
 simp only [cands, List.mem_cons, List.not_mem_nil, or_false] at hc
 rcases hc with rfl | rfl | rfl | rfl | rfl | rfl | rfl | rfl | rfl | rfl <;> exact ⟨⟨by decide, by decide⟩, ⟨by decide, by decide⟩⟩
theorem cands_take {k : Nat} (h1 : 1 ≤ k) (h8 : k ≤ 8) : cands.take (k + 1 + 1) = cands.take (k + 1) ++ [⟨2, (k : Nat)⟩] := by
 have : k = 1 ∨ k = 2 ∨ k = 3 ∨ k = 4 ∨ k = 5 ∨ k = 6 ∨ k = 7 ∨ k = 8 := by omega
 rcases this with rfl | rfl | rfl | rfl | rfl | rfl | rfl | rfl <;> rfl
theorem readGo_step {parts : List (List UInt8)} {l : List PolicyD} {k : Nat} (h : k < l.length) : readGo parts (l.drop k) = if sameB (polLine l[k]) parts then (l[k], true) else readGo parts (l.drop (k + 1)) := by
 rw [List.drop_eq_getElem_cons h, readGo]
end
section
theorem wordGo_len : ∀ {l : List Int} {acc : List UInt8}, (∀ n ∈ l, 0 ≤ n ∧ n ≤ 1000000000) → (wordGo acc l).length ≤ acc.length + 11 * l.length
 | [], acc, _ => by simp [wordGo]
 | n :: r, acc, h => by
  rw [wordGo]
  have h1 := wordGo_len (l := r) (acc := acc ++ (dec n ++ [44])) (fun x hx => h x (by simp [hx]))
  obtain ⟨h2, h3⟩ := h n (by simp)
  have h4 : (dec n).length ≤ 10 := by
   rw [dec, if_neg (by omega)]
   have := decGo_le 9 n.natAbs [] (by omega)
   simpa using this
  simp only [List.length_append, List.length_cons, List.length_nil] at h1 ⊢
  omega
theorem letInts_ok {x : LetterD} (h : letOk x = true) : ∀ n ∈ letInts x, 0 ≤ n ∧ n ≤ 1000000000 := by
 simp only [letOk, inR, letNums, List.all_cons, List.all_nil, isN, Bool.and_eq_true, decide_eq_true_eq, Bool.and_true] at h
 intro n hn
 simp only [letInts, List.mem_cons, List.not_mem_nil, or_false] at hn
 rcases hn with rfl | rfl | rfl | rfl | rfl | rfl | rfl | rfl | rfl | rfl | rfl | rfl | rfl | rfl | rfl | rfl | rfl | rfl <;> first | omega | (cases x.spare <;> decide)
theorem letWord_len (x : LetterD) : (letWord x).length ≤ 400 := by
 rw [letWord]
 split
 ·rename_i h
  have h1 := wordGo_len (acc := []) (letInts_ok h)
  have h2 : x.text.length ≤ 20 := by
   simp only [letOk, Bool.and_eq_true, decide_eq_true_eq] at h
   exact h.2
  have h3 : (hexR x.text).length ≤ 40 := by
   rw [hexR, if_pos (by omega), hexL_length]; omega
  have h4 : (letInts x).length = 18 := rfl
  rw [List.length_append]
  simp only [List.length_nil] at h1
  omega
 ·simp
def letNone : LetterD := ⟨0, 0, 0, 0, 0, 0, 0, 0, 0, ⟨0, 0, 0, 0, 0⟩, 0, 0, false, 0, []⟩
def letAt (n : List Int) (k : Nat) : Int := n.getD k 0
def letOf (n : List Int) (spare : Bool) (text : List UInt8) : LetterD := ⟨letAt n 0, letAt n 1, letAt n 2, letAt n 3, letAt n 4, letAt n 5, letAt n 6, letAt n 7, letAt n 8, ⟨letAt n 9, letAt n 10, letAt n 11, letAt n 12, letAt n 13⟩, letAt n 14, letAt n 15, spare, letAt n 17, text⟩
def rdAll : List (List UInt8) → Option (List Int)
 | [] => some []
 | s :: r => if (readDec s).2 then (rdAll r).map ((readDec s).1 :: ·) else none
def rlwR (s : List UInt8) (t : List UInt8) : Option (List Int) → LetterD × Bool
 | none => (letNone, false)
 | some n => if (unhex t).2 = true ∧ letWord (letOf n (letAt n 16 == 1) (unhex t).1) = s then (letOf n (letAt n 16 == 1) (unhex t).1, true) else (letNone, false)
def rlw (s : List UInt8) : LetterD × Bool :=
 if (cutL 44 s).length = 19 then rlwR s ((cutL 44 s).getD 18 []) (rdAll ((cutL 44 s).take 18)) else (letNone, false)
theorem rdAll_step {l : List (List UInt8)} {k : Nat} (h : k < l.length) : rdAll (l.drop k) = if (readDec l[k]).2 then (rdAll (l.drop (k + 1))).map ((readDec l[k]).1 :: ·) else none := by
 rw [List.drop_eq_getElem_cons h, rdAll]
theorem rdAll_len : ∀ {l : List (List UInt8)} {n : List Int}, rdAll l = some n → n.length = l.length
 | [], n, h => by simp [rdAll] at h; subst h; rfl
 | s :: r, n, h => by
  rw [rdAll] at h
  split at h
  ·simp only [Option.map_eq_some_iff] at h
   obtain ⟨m, hm, rfl⟩ := h
   simp [rdAll_len hm]
  ·cases h
theorem rdAll_wf : ∀ {l : List (List UInt8)} {n : List Int}, rdAll l = some n → ∀ x ∈ n, I64 x
 | [], n, h => by simp [rdAll] at h; subst h; simp
 | s :: r, n, h => by
  rw [rdAll] at h
  split at h
  ·simp only [Option.map_eq_some_iff] at h
   obtain ⟨m, hm, rfl⟩ := h
   intro x hx
   rcases List.mem_cons.1 hx with rfl | hx
   ·exact readDec_wf s
   ·exact rdAll_wf hm x hx
  ·cases h
theorem letAt_wf {n : List Int} (h : ∀ x ∈ n, I64 x) (k : Nat) : I64 (letAt n k) := by
 rw [letAt, List.getD_eq_getElem?_getD]
 cases hk : n[k]? with
 | none => exact ⟨by decide, by decide⟩
 | some x => exact h x (List.mem_of_getElem? hk)
theorem letOf_wf {n : List Int} (h : ∀ x ∈ n, I64 x) (b : Bool) {t : List UInt8} (ht : t.length ≤ maxLen) : (letOf n b t).wf :=
 ⟨letAt_wf h _, letAt_wf h _, letAt_wf h _, letAt_wf h _, letAt_wf h _, letAt_wf h _, letAt_wf h _, letAt_wf h _, letAt_wf h _, letAt_wf h _, letAt_wf h _, letAt_wf h _, letAt_wf h _, letAt_wf h _, letAt_wf h _, letAt_wf h _, letAt_wf h _, ht⟩
theorem letOf_set {n : List Int} {k : Nat} (hk : k < 18) (h16 : k ≠ 16) (v : Int) (hn : n.length = 18) : spl (letOf n false []).cs k [.int .i64 v] = (letOf (n.set k v) false []).cs := by
 obtain ⟨a0, a1, a2, a3, a4, a5, a6, a7, a8, a9, a10, a11, a12, a13, a14, a15, a16, a17, rfl⟩ : ∃ a0 a1 a2 a3 a4 a5 a6 a7 a8 a9 a10 a11 a12 a13 a14 a15 a16 a17, n = [a0, a1, a2, a3, a4, a5, a6, a7, a8, a9, a10, a11, a12, a13, a14, a15, a16, a17] := by
  match n, hn with
  | [a0, a1, a2, a3, a4, a5, a6, a7, a8, a9, a10, a11, a12, a13, a14, a15, a16, a17], _ => exact ⟨a0, a1, a2, a3, a4, a5, a6, a7, a8, a9, a10, a11, a12, a13, a14, a15, a16, a17, rfl⟩
 match k, hk, h16 with
 | 0, _, _ | 1, _, _ | 2, _, _ | 3, _, _ | 4, _, _ | 5, _, _ | 6, _, _ | 7, _, _ | 8, _, _ | 9, _, _ | 10, _, _ | 11, _, _ | 12, _, _ | 13, _, _ | 14, _, _ | 15, _, _ | 17, _, _ => rfl
 | 16, _, h => exact absurd rfl h
 | n + 18, h, _ => exact absurd h (by omega)
theorem letOf_16 {n : List Int} (v : Int) : (letOf (n.set 16 v) false []).cs = (letOf n false []).cs := by
 simp [letOf, letAt]
end
section
def actOk (a : ActD) : Bool := inR a.kind 1 12 && inR a.side 1 2 && (isN a.pos && isN a.many) && decide (a.text.length ≤ 120)
def addrNone : AddrD := ⟨0, 0, false, false⟩
def actNone : ActD := ⟨0, 0, 0, 0, [], addrNone, letNone⟩
def toldA (a : ActD) : ActD :=
  ⟨a.kind, if a.kind ≤ 7 then a.side else 1, if a.kind = 1 ∨ a.kind = 2 ∨ a.kind = 3 ∨ a.kind = 4 ∨ a.kind = 5 ∨ a.kind = 11 then 0 else a.pos, if a.kind = 2 then a.many else 0, if a.kind = 1 then a.text else [],
    if a.kind = 5 then ⟨a.addr.id, a.addr.addr, a.addr.spare, false⟩ else addrNone, if a.kind = 11 then a.letter else letNone⟩
def hexW (t : List UInt8) : List UInt8 := if hexR t = [] then [45] else hexR t
def restF (a : ActD) : List (List UInt8) :=
  if a.kind = 1 then [hexW a.text] else if a.kind = 2 then [dec a.many] else if a.kind = 3 ∨ a.kind = 4 then [] else
  if a.kind = 5 then [dec a.addr.id, dec a.addr.addr, dec (cond a.addr.spare 1 0)] else if a.kind = 11 then [letWord a.letter] else [dec a.pos]
def fieldsA (a : ActD) : List (List UInt8) := (if a.kind ≤ 7 then [dec a.side] else []) ++ restF a
def fieldsOk (a : ActD) : Bool :=
  (decide (7 < a.kind) || isN a.side) &&
  (if a.kind = 1 then true else if a.kind = 2 then isN a.many else if a.kind = 3 ∨ a.kind = 4 then true else
   if a.kind = 5 then isN a.addr.id && isN a.addr.addr else if a.kind = 11 then !(letWord a.letter == []) else isN a.pos)
def actTab : List (List UInt8) := [[], [119, 114, 105, 116, 101], [114, 101, 97, 100], [116, 105, 99, 107], [109, 97, 110, 97, 103, 101], [97, 100, 100, 114], [100, 114, 111, 112], [114, 101, 115, 101, 116], [100, 101, 108, 105, 118, 101, 114], [108, 111, 115, 101], [99, 111, 112, 121], [105, 110, 106, 101, 99, 116], [97, 103, 97, 105, 110]]
def actParts (a : ActD) : List (List UInt8) := actTab.getD a.kind.toNat [] :: fieldsA a
def actGood (a : ActD) : Bool := actOk a && decide (toldA a = a) && fieldsOk a
def actLine (a : ActD) : List UInt8 := if actGood a then joinL [32] (actParts a) else []

theorem rdGo_decGo (n : Nat) : ∀ acc : List UInt8, rdGo 0 (decGo n acc) = rdGo n acc := by
  induction n using Nat.strongRecOn with
  | _ n ih =>
    intro acc
    have dig : ∀ k : Nat, k < 10 → (UInt8.ofNat (48 + k)).toNat = 48 + k := fun k hk => by rw [UInt8.toNat_ofNat']; omega
    rw [decGo]
    split
    · rename_i h
      rw [rdGo, dig n h, if_neg (by omega)]
      congr 1
      omega
    · rw [ih (n / 10) (by omega), rdGo, dig (n % 10) (by omega), if_neg (by omega)]
      congr 1
      omega
theorem isN_iff {n : Int} : isN n = true ↔ 0 ≤ n ∧ n ≤ 1000000000 := by simp [isN]
theorem readDec_dec {n : Int} (h : 0 ≤ n ∧ n ≤ 1000000000) : readDec (dec n) = (n, true) := by
  have hl : (dec n).length ≤ 10 := by
    rw [dec, if_neg (by omega)]
    have := decGo_le 9 n.natAbs [] (by omega)
    simpa using this
  have hr : rdGo 0 (dec n) = some n := by
    rw [dec, if_neg (by omega), rdGo_decGo, rdGo]
    congr 1
    omega
  rw [readDec, if_neg (by omega), hr, readR, if_neg]
  rintro (h' | h')
  · omega
  · exact h' rfl
theorem hexV_figB {n : Nat} (h : n < 16) : hexV (figB n) = n := by
  have : ∀ m : Fin 16, hexV (figB m.1) = (m.1 : Int) := by decide
  exact this ⟨n, h⟩
theorem unhexGo_hexL : ∀ (t acc : List UInt8), unhexGo acc (hexL t) = some (acc ++ t)
  | [], acc => by simp [hexL, unhexGo]
  | b :: t, acc => by
    have hb := b.toNat_lt
    have e : hexL (b :: t) = figB (b.toNat / 16) :: figB (b.toNat % 16) :: hexL t := rfl
    rw [e, unhexGo, hexV_figB (by omega), hexV_figB (by omega), if_neg (by omega), unhexGo_hexL t]
    have h2 : (16 * ((b.toNat / 16 : Nat) : Int) + ((b.toNat % 16 : Nat) : Int)).toNat = b.toNat := by omega
    rw [h2]
    simp
theorem unhex_hexL {t : List UInt8} (h : t.length ≤ 20000) : unhex (hexL t) = (t, true) := by
  have hl := hexL_length t
  rw [unhex, if_neg (by omega), unhexGo_hexL]
  rfl
theorem cutGo_word {y : UInt8} : ∀ {s r cur : List UInt8} {acc : List (List UInt8)}, (∀ b ∈ s, b ≠ y) → cutGo y acc cur (s ++ r) = cutGo y acc (cur ++ s) r
  | [], r, cur, acc, _ => by simp
  | b :: s, r, cur, acc, h => by
    rw [List.cons_append, cutGo, if_neg (h b (by simp)), cutGo_word (fun x hx => h x (by simp [hx]))]
    simp
theorem wordGo_eq : ∀ {l : List Int} {acc : List UInt8}, wordGo acc l = acc ++ l.flatMap fun n => dec n ++ [44]
  | [], acc => by simp [wordGo]
  | n :: r, acc => by
    rw [wordGo, wordGo_eq]
    simp
theorem decGo_digit (n : Nat) : ∀ acc : List UInt8, (∀ b ∈ acc, 48 ≤ b.toNat ∧ b.toNat ≤ 57) → ∀ b ∈ decGo n acc, 48 ≤ b.toNat ∧ b.toNat ≤ 57 := by
  induction n using Nat.strongRecOn with
  | _ n ih =>
    intro acc ha
    have dig : ∀ k : Nat, k < 10 → (UInt8.ofNat (48 + k)).toNat = 48 + k := fun k hk => by rw [UInt8.toNat_ofNat']; omega
    have step : ∀ k : Nat, k < 10 → ∀ b ∈ UInt8.ofNat (48 + k) :: acc, 48 ≤ b.toNat ∧ b.toNat ≤ 57 := by
      intro k hk b hb
      rcases List.mem_cons.1 hb with rfl | hb
      · rw [dig k hk]; omega
      · exact ha b hb
    rw [decGo]
    split
    · rename_i h
      exact step n h
    · exact ih (n / 10) (by omega) _ (step (n % 10) (by omega))
theorem dec_digit' {n : Int} (h : 0 ≤ n) : ∀ b ∈ dec n, 48 ≤ b.toNat ∧ b.toNat ≤ 57 := by
  rw [dec, if_neg (by omega)]
  exact decGo_digit _ _ (by simp)
theorem dec_ne (n : Int) : dec n ≠ [] := by
  intro h
  rw [dec] at h
  have := decGo_lt n.natAbs []
  split at h
  · cases h
  · rw [h] at this; simp at this
theorem figB_le {n : Nat} (h : n < 16) : 48 ≤ (figB n).toNat ∧ (figB n).toNat ≤ 102 := by
  have : ∀ m : Fin 16, 48 ≤ (figB m.1).toNat ∧ (figB m.1).toNat ≤ 102 := by decide
  exact this ⟨n, h⟩
theorem hexL_char {t : List UInt8} : ∀ b ∈ hexL t, 48 ≤ b.toNat ∧ b.toNat ≤ 102 := by
  intro b hb
  simp only [hexL, List.mem_flatMap, List.mem_cons, List.not_mem_nil, or_false] at hb
  obtain ⟨c, _, rfl | rfl⟩ := hb
  · have := c.toNat_lt; exact figB_le (by omega)
  · exact figB_le (by omega)
theorem cut_words : ∀ {l : List Int} {acc : List (List UInt8)} {t : List UInt8}, (∀ n ∈ l, 0 ≤ n) → (∀ b ∈ t, b ≠ 44) → cutGo 44 acc [] ((l.flatMap fun n => dec n ++ [44]) ++ t) = acc ++ l.map dec ++ [t]
  | [], acc, t, _, ht => by
    have := cutGo_word (y := 44) (s := t) (r := []) (cur := []) (acc := acc) ht
    simp only [List.append_nil, List.nil_append] at this
    simp [this, cutGo]
  | n :: l, acc, t, h, ht => by
    have hd : ∀ b ∈ dec n, b ≠ 44 := fun b hb e => by
      have := dec_digit' (h n (by simp)) b hb
      subst e
      exact absurd this.1 (by decide)
    rw [List.flatMap_cons, List.append_assoc, List.append_assoc, cutGo_word hd, List.singleton_append, cutGo, if_pos rfl, List.nil_append, cut_words (fun x hx => h x (by simp [hx])) ht]
    simp
theorem rdAll_dec : ∀ {l : List Int}, (∀ n ∈ l, 0 ≤ n ∧ n ≤ 1000000000) → rdAll (l.map dec) = some l
  | [], _ => rfl
  | n :: l, h => by
    rw [List.map_cons, rdAll, readDec_dec (h n (by simp)), rdAll_dec (fun x hx => h x (by simp [hx]))]
    rfl
theorem letOf_ints (x : LetterD) : letOf (letInts x) (letAt (letInts x) 16 == 1) x.text = x := by
  obtain ⟨k, f, t, p, ke, to, no, gi, si, ⟨a, b, c, d, e⟩, id, ad, sp, po, te⟩ := x
  cases sp <;> rfl
theorem letOk_text {x : LetterD} (h : letOk x = true) : x.text.length ≤ 20 := by
  simp only [letOk, Bool.and_eq_true, decide_eq_true_eq] at h
  exact h.2
theorem rlw_letWord {x : LetterD} (h : letOk x = true) : rlw (letWord x) = (x, true) := by
  have ht := letOk_text h
  have hi := letInts_ok h
  have hw : letWord x = (letInts x).flatMap (fun n => dec n ++ [44]) ++ hexL x.text := by
    rw [letWord, if_pos h, wordGo_eq, hexR, if_pos (by omega), List.nil_append]
  have hc : cutL 44 (letWord x) = (letInts x).map dec ++ [hexL x.text] := by
    rw [cutL, hw, cut_words (fun n hn => (hi n hn).1) (fun b hb e => by
      have := (hexL_char b hb).1
      subst e
      exact absurd this (by decide))]
    rfl
  have h18 : ((letInts x).map dec).length = 18 := rfl
  rw [rlw, hc, if_pos (by rfl), List.take_left' h18, rdAll_dec hi, rlwR]
  have e : ((letInts x).map dec ++ [hexL x.text]).getD 18 [] = hexL x.text := rfl
  rw [e, unhex_hexL (by omega)]
  dsimp only
  rw [letOf_ints, if_pos ⟨rfl, rfl⟩]
theorem letWord_ne {x : LetterD} : letWord x ≠ [] ↔ letOk x = true := by
  constructor
  · intro h
    cases hk : letOk x with
    | true => rfl
    | false => exact absurd (by simp [letWord, hk]) h
  · intro h e
    have h1 := rlw_letWord h
    rw [e] at h1
    have : (rlw []).2 = false := rfl
    rw [h1] at this
    cases this
theorem letWord_char {x : LetterD} (h : letOk x = true) : ∀ b ∈ letWord x, 32 < b.toNat ∧ b.toNat ≤ 126 := by
  have ht := letOk_text h
  have hi := letInts_ok h
  intro b hb
  rw [letWord, if_pos h, wordGo_eq, hexR, if_pos (by omega), List.nil_append] at hb
  rcases List.mem_append.1 hb with hb | hb
  · obtain ⟨n, hn, hb⟩ := List.mem_flatMap.1 hb
    rcases List.mem_append.1 hb with hb | hb
    · have := dec_digit' (hi n hn).1 b hb
      omega
    · simp at hb; subst hb; decide
  · have := hexL_char b hb
    omega
end
section
open Go.RowKit

theorem impl_within (n a b : Int) : CallA Tryd.prog 49 [.sc (.int .i64 n), .sc (.int .i64 a), .sc (.int .i64 b)] [] (.sc (.bo (inR n a b))) [] := by
 refine qE Tryd.func49 Tryd.ntmps49 Tryd.results49 fun E hE => ?_
 refine qB (fun h => ?_) fun h => ?_
 ·refine den_fin [] (trivial) _ (by simp only [go_sem]; rfl) (by rfl) (by rfl) ?_
  simp (disch := omega) only [go_sem, Nat.reduceEqDiff, Nat.reduceAdd, Nat.reduceSub, Int.reduceAdd, Int.reduceSub, Int.reduceToNat]
  simp [inR, h]
 ·refine den_fin [] (trivial) _ (by simp only [go_sem]; rfl) (by rfl) (by rfl) ?_
  simp (disch := omega) only [go_sem, Nat.reduceEqDiff, Nat.reduceAdd, Nat.reduceSub, Int.reduceAdd, Int.reduceSub, Int.reduceToNat]
  simp [inR, h]
theorem spec_l01In (n a b : Int) : CallA Tryd.prog 27 [.sc (.int .i64 n), .sc (.int .i64 a), .sc (.int .i64 b)] [] (.sc (.bo (inR n a b))) [] := by
 refine qE Tryd.func27 Tryd.ntmps27 Tryd.results27 fun E hE => ?_
 refine qB (fun h => ?_) fun h => ?_
 ·refine den_fin [] (trivial) _ (by simp only [go_sem]; rfl) (by rfl) (by rfl) ?_
  simp (disch := omega) only [go_sem, Nat.reduceEqDiff, Nat.reduceAdd, Nat.reduceSub, Int.reduceAdd, Int.reduceSub, Int.reduceToNat]
  simp [inR, h]
 ·refine den_fin [] (trivial) _ (by simp only [go_sem]; rfl) (by rfl) (by rfl) ?_
  simp (disch := omega) only [go_sem, Nat.reduceEqDiff, Nat.reduceAdd, Nat.reduceSub, Int.reduceAdd, Int.reduceSub, Int.reduceToNat]
  simp [inR, h]
theorem spec_l14Num (n : Int) : CallA Tryd.prog 28 [.sc (.int .i64 n)] [] (.sc (.bo (isN n))) [] := by
 refine qE Tryd.func28 Tryd.ntmps28 Tryd.results28 fun E hE => ?_
 refine den_call (trivial) (spec_l01In _ _ _) [] qM (by rfl) (run_den 400 ?_)
 simp (disch := omega) only [go_sem, Nat.reduceEqDiff, Nat.reduceAdd, Nat.reduceSub, Int.reduceAdd, Int.reduceSub, Int.reduceToNat]
 refine den_fin [] (trivial) _ (by simp only [go_sem]; rfl) (by rfl) (by rfl) ?_
 simp (disch := omega) only [go_sem, Nat.reduceEqDiff, Nat.reduceAdd, Nat.reduceSub, Int.reduceAdd, Int.reduceSub, Int.reduceToNat]
 rfl
theorem impl_isNumber (l : List Int) (hl : l.length ≤ 1000000) : CallA Tryd.prog 50 [.sc (.sl 0 0 l.length)] [some ⟨l.map intC, 1, 3, false, true⟩] (.sc (.bo (l.all isN))) [some ⟨l.map intC, 1, 3, false, true⟩] := by
 refine qE Tryd.func50 Tryd.ntmps50 Tryd.results50 fun E hE => ?_
 refine den_lp 1 hE (fun s k => s.at [4, 8, 9, 10, 11, 12, 13, 14] [(7, .sc (.int .i64 (k : Nat)))] s.hp) (fun k => k ≤ l.length ∧ l.all isN = (l.drop k).all isN) (fun k => l.length - k) 0 (qA [0]) trivial ⟨Nat.zero_le _, by simp⟩ (weak_mk (by rfl) (by rfl) ?_) fun k hk N hN => ?_
 ·exact qY
 ·obtain ⟨hk1, hk2⟩ := hk
  refine run_den 100 ?_
  refine qX ?_
  refine qB (fun h => ?_) fun h => ?_
  ·try simp (disch := omega) only [go_sem, Nat.reduceEqDiff, Nat.reduceAdd, Nat.reduceSub, Int.reduceAdd, Int.reduceSub, Int.reduceToNat, ints_get h]
   refine den_call (by omega) (impl_within _ _ _) [] qM (by rfl) (run_den 400 ?_)
   simp (disch := omega) only [go_sem, Nat.reduceEqDiff, Nat.reduceAdd, Nat.reduceSub, Int.reduceAdd, Int.reduceSub, Int.reduceToNat]
   rw [List.drop_eq_getElem_cons h, List.all_cons] at hk2
   refine qB (fun h2 => ?_) fun h2 => ?_
   ·refine den_fin (qA [0]) (trivial) _ (by simp only [go_sem]; rfl) (by rfl) (by rfl) ?_
    simp (disch := omega) only [go_sem, Nat.reduceEqDiff, Nat.reduceAdd, Nat.reduceSub, Int.reduceAdd, Int.reduceSub, Int.reduceToNat]
    have : isN l[k] = false := by simp [isN, inR] at h2 ⊢; omega
    rw [hk2, this, Bool.false_and]
   ·refine ⟨trivial, hN _ (k + 1) (qA [0]) (⟨by omega, ?_⟩) (by (try dsimp only); omega) (weak_mk (by rfl) (by rfl) ?_)⟩
    ·have : isN l[k] = true := by simp [isN, inR] at h2 ⊢; omega
     rw [hk2, this, Bool.true_and]
    ·exact qY
  ·refine den_fin (qA [0]) (trivial) _ (by simp only [go_sem]; rfl) (by rfl) (by rfl) ?_
   simp (disch := omega) only [go_sem, Nat.reduceEqDiff, Nat.reduceAdd, Nat.reduceSub, Int.reduceAdd, Int.reduceSub, Int.reduceToNat]
   rw [hk2, List.drop_eq_nil_of_le (by omega), List.all_nil]
end
end Go.Proofs.YtfnnpnifiejlpaaDoor
