/-
  PROVED: FnExactRunScript returns true for every input, and leaves its arguments as they were, where the table actWords stands as the program's text lays it (the tied card). (From the contract of the law's text to the given statement; written by vlaw.py.)
-/
import Derived.Test.YtdiiopjaebnmfaaGreatDoorZFnExactRunScriptA
import Derived.Test.YtdiiopjaebnmfaaGreatDoorZFnExactRunScriptB
import Derived.Test.YtdiiopjaebnmfaaGreatDoorZFnExactRunScriptC
import Derived.Test.YtdiiopjaebnmfaaGreatDoorZFnExactRunScriptD
import Derived.Test.YtdiiopjaebnmfaaGreatDoorZFnExactRunScriptE
import Derived.Test.YtdiiopjaebnmfaaGreatDoorZFnExactRunScriptF
import Derived.Test.YtdiiopjaebnmfaaGreatDoorZFnExactRunScriptG
import Derived.Test.YtdiiopjaebnmfaaGreatDoorZFnExactRunScriptH
import Derived.Test.YtdiiopjaebnmfaaGreatDoorZFnExactRunScriptI
import Derived.Test.YtdiiopjaebnmfaaGreatDoorZFnExactRunScriptJ
import Derived.Test.YtdiiopjaebnmfaaGreatDoorZFnExactRunScriptK
import Derived.Test.YtdiiopjaebnmfaaGreatDoorZFnExactRunScriptL
import Derived.Test.YtdiiopjaebnmfaaGreatDoorZFnExactRunScriptM
import Derived.Test.YtdiiopjaebnmfaaGreatDoorZFnExactRunScriptN
import Derived.Test.YtdiiopjaebnmfaaGreatDoorZFnExactRunScriptO
import Derived.Test.YtdiiopjaebnmfaaGreatDoorZFnExactRunScriptP
import Derived.Test.YtdiiopjaebnmfaaGreatDoorZFnExactRunScriptQ
import Derived.Test.YtdiiopjaebnmfaaGreatDoorZFnExactRunScriptR
import Derived.Test.YtdiiopjaebnmfaaGreatDoorZFnExactRunScriptS
import Derived.Test.YtdiiopjaebnmfaaGreatDoorZFnExactRunScriptT
import Derived.Test.YtdiiopjaebnmfaaGreatDoorZFnExactRunScriptU
import Derived.Test.YtdiiopjaebnmfaaGreatDoorZFnExactRunScriptV
import Derived.Test.YtdiiopjaebnmfaaGreatDoorRows
import Derived.Test.YtdiiopjaebnmfaaGreatDoorCards
import Derived.Test.YtdiiopjaebnmfaaGreatDoorTie
import Derived.ChangeVars
import Derived.LaidMore
import Derived.Lay
import Derived.SevenTiedAt
import Derived.Stop.Joined
import Derived.ChangeOld
import Derived.Carry
namespace Go.Proofs.YtdiiopjaebnmfaaGreatDoor.fnExactRunScript
open Go.ChangeShapes Go.WideShapes Go.ChangeAt Go.RowKit
open Go.ChangeMaps (open_string shut_string)
set_option linter.unusedVariables false

theorem own : ownKnob Tryz.prog.godebug = none := by kernel_rfl
theorem laidOut : laidOutB Tryz.prog = true := by kernel_rfl

theorem Nn : Tryz.prog.globalNamed "loop.example/g00967/impl.actWords" = some 0 := by kernel_rfl
theorem Np : (Tryz.prog.globals[0]?).map (·.type) = some 104 := by kernel_rfl
theorem Pm : (Rows.laid_loop_example_g00967_impl_actWords : DataW Unit) = .agg (actTab.map fun l => .lit (.string l)) := by kernel_rfl
/-- The table's cells, where it stands as laid. -/
theorem Ft {W : World} (h : laidMetH Tryz.prog Rows.fnExactRunScriptRow.laid W) {r : Nat} {l : List UInt8} (hr : actTab[r]? = some l) : W.cell? ⟨0, r, none⟩ = some (.string ⟨l.toArray⟩) := by
  rw [MakeChecks.laidMetH_plain _ _ _ (by kernel_rfl)] at h
  obtain ⟨ps, ⟨g, t, cs, fuel, p, q, hg, ht, hv, hd, _, _⟩, _, _⟩ := h
  obtain rfl := Option.some.inj (Nn.symm.trans hg)
  obtain rfl := Option.some.inj (Np.symm.trans ht)
  rw [Pm] at hd
  obtain ⟨xs, m, _, ex, _, hl, hel⟩ := DataW.trod_array Tryz.underlying104 hd
  have c1 : Tryz.prog.cellsOf 9 = 1 := by kernel_rfl
  have h13 : actTab.length = 13 := rfl
  have hlt : r < 13 := by have := (List.getElem?_eq_some_iff.1 hr).1; omega
  have hE := hel r hlt
  rw [c1, Nat.mul_one, List.getElem?_eq_getElem (by omega)] at hE
  obtain ⟨z, e1, e2, _⟩ := DataW.trod_string Tryz.underlying9 hE
  have e3 : (xs.map (·.1)) = actTab.map fun l => (DataW.lit (.string l) : DataW Unit) := (DataW.agg.inj (Prod.mk.inj ex).1).symm
  have e4 : (xs.map (·.1))[r]? = (actTab.map fun l => (DataW.lit (.string l) : DataW Unit))[r]? := by rw [e3]
  rw [List.getElem?_map, List.getElem?_map, List.getElem?_eq_getElem (by omega : r < xs.length), e2, hr] at e4
  have hz : z.data.toList = l := by simpa using e4
  rw [World.var?_cell hg hv r]
  have h0 : ((cs.toList.drop r).take 1)[0]? = some (.string z) := by rw [e1]; rfl
  have h1 : cs.toList[r]? = some (.string z) := by simpa using h0
  have h2 : (⟨l.toArray⟩ : ByteArray) = z := by rw [← hz]
  rw [h2]
  simpa using h1
theorem LG {W : World} (h : laidMetH Tryz.prog Rows.fnExactRunScriptRow.laid W) : 0 < W.heap.size := by
  have h1 := Ft h (r := 0) (l := []) rfl
  cases hz : W.heap[0]? with
  | none => simp [World.cell?, hz] at h1
  | some o => exact (Array.getElem?_eq_some_iff.1 hz).1
set_option maxRecDepth 100000 in
theorem lifted (os : Os) (started : os.Started) (H : Type) (enc : TypeId × Value → H) :
    ReturnsInHanded {} Tryz.checked os 4 .any (fun w args => (Rows.fnExactRunScriptSpec.pre enc Tryz.prog Tryz.f4 Rows.fnExactRunScriptRow.domain false w args ∧ laidMetH Tryz.prog Rows.fnExactRunScriptRow.laid w) ∧ sizedMet enc Tryz.prog Tryz.f4 (OpenSpec.ofChange Rows.fnExactRunScriptSpec) false w args)
      (Rows.fnExactRunScriptSpec.post enc Tryz.prog Tryz.f4 false true false false) := by
  refine returnsInHanded_of_change_and (C := Tryz.checked) (X := fun w _ => laidMetH Tryz.prog Rows.fnExactRunScriptRow.laid w) (fun _ _ _ hh h => h.of_heap hh) own started (by kernel_rfl) Tryz.func4
    (ChangeSpec.witness_shaped (enc := enc) (C := Tryz.checked) (os := os) (X := fun w _ => laidMetH Tryz.prog Rows.fnExactRunScriptRow.laid w) false (World.laidAll Tryz.prog os Rows.fnExactRunScriptRow.laid) #[.string ⟨#[]⟩] 8 (World.laidAll_os _ _ _)
      (World.shaped_of_ZipB (by kernel_rfl) (by kernel_rfl)) (by kernel_rfl) (by kernel_rfl) (by kernel_rfl)
      (by rw [MakeChecks.laidMetH_plain _ _ _ (by kernel_rfl)]; exact laidMet_laidAll _ (by kernel_rfl) (by kernel_rfl))) ?_
  intro W base args ds gs bZ hval0 hW hcnd _ hL _
  have hval : ∀ (j : Nat) t v, Tryz.f4.params[j]? = some t → args[j]? = some v → Value.okWide Tryz.prog W .any base t v := hval0
  have hW' := hW
  obtain ⟨p, q, hA0, hV0, rfl, hfz, hnd⟩ := hW
  have hV : DataW.TrodVars enc Tryz.prog W (fun _ => true) ["loop.example/g00967/impl.actWords"] gs q := hV0
  have hA : DataW.TrodAll enc Tryz.prog W 0 (fun _ => true) true Tryz.f4.params.toList args.toList ds p := hA0
  rw [Tryz.params4] at hA hval
  obtain ⟨v0, vs0, d0, ds0, p0, q0, hargs, rfl, rfl, h0, r0⟩ := trodAll_cons hA
  obtain ⟨rfl, rfl, rfl⟩ := trodAll_nil r0
  obtain rfl : args = #[v0] := by cases args; simp_all
  obtain ⟨g, t, cs, fuel, d, p9, rfl, hg, ht, hvar, hd, rfl⟩ := trodVars_one hV
  obtain rfl := Option.some.inj (Nn.symm.trans hg)
  obtain rfl := Option.some.inj (Np.symm.trans ht)
  have kv : DataW.Trod enc Tryz.prog W 0 (fun _ => true) true 104 (.agg cs) d p9 := ⟨fuel, hd⟩
  have ltv : ∀ x ∈ p9, x.block < W.heap.size := DataW.trod_lt fuel _ _ _ hd
  have k0 := h0
  have lt0 : ∀ x ∈ p0, x.block < W.heap.size := by obtain ⟨m, hm⟩ := k0; exact DataW.trod_lt m _ _ _ hm
  obtain ⟨a0, rfl, _, _, w0⟩ := open_string Tryz.underlying9 (hval 0 9 v0 rfl rfl) h0
  clear hA0 hV0 hval0
  refine (LE (rp a0.data.toList (Pk w0)) (β := []) (w := W) (LG hL) (fun _ _ h => Ft hL h) trivial (vs := [.string a0]) ⟨rfl, trivial⟩).mono fun e W' ⟨he, bel⟩ => ?_
  subst he
  have kv' := Below.trod laidOut (by kernel_rfl) (of_decide_eq_true (by kernel_rfl)) kv bel ltv
  have hvar' : W'.var? Tryz.prog "loop.example/g00967/impl.actWords" = some cs := by
    simp only [World.var?, hg, Option.bind_some] at hvar ⊢
    rw [bel.block 0 (LG hL)]
    exact hvar
  obtain ⟨fuel', hd'⟩ := kv'
  exact ⟨_, rfl, _, _, _, [], _, _, hW', trodAll_mk1 (shut_bool Tryz.underlying4 _), (trodAll_cons_mk (Below.trod laidOut (by kernel_rfl) (of_decide_eq_true (by kernel_rfl)) k0 bel lt0) trodAll_mk0), trodVars_mk1 hg ht hvar' hd', bel.frame _, fun h => by cases h⟩

theorem over : Rows.fnExactRunScriptRow.holds Tryz.pinned (OpenSpec.ofChange Rows.fnExactRunScriptSpec) :=
  OpenClaim.holds_of_wide 4 Tryz.f4 rfl rfl rfl rfl rfl rfl rfl ⟨rfl, rfl, rfl, rfl, rfl⟩ rfl rfl rfl rfl rfl (by kernel_rfl) Tryz.func4 (by kernel_rfl)
    (of_decide_eq_true (by kernel_rfl)) (by unfold Func.isWrapper; first | (rw [if_pos (by decide +kernel)]; kernel_rfl) | (rw [if_neg (by decide +kernel)]; exact ⟨rfl, rfl⟩))
    (fun os started H enc _ => lifted os started H enc)
/-- The statement: the tied card. -/
theorem proved : Rows.FnExactRunScriptCardSaid :=
  Claim7.holds_tied_plain_at .later [] [.data] true Rows.fnExactRunScriptCard.stood.harness false over (fun _ h => by cases h) (by kernel_rfl) (fun _ h => by cases h) fnExactRunScript_row_tie rfl ⟨rfl, rfl⟩ (by kernel_rfl) rfl
    (fun f fn hf hfn => by
      obtain rfl : f = 4 := Option.some.inj ((show Tryz.prog.funcNamed "loop.example/g00967/laws.FnExactRunScript" = some 4 by kernel_rfl).symm.trans hf) |>.symm
      obtain rfl : fn = Tryz.f4 := (Option.some.inj (Tryz.func4.symm.trans hfn)).symm
      exact ⟨by kernel_rfl, fun j t ht => by
        rw [Tryz.params4] at ht
        have hm : t ∈ [9] := by simpa using Array.mem_of_getElem? ht
        have hall : ([9].all fun u => !Tryz.prog.wantsStandIn u) = true := by kernel_rfl
        exact (show Tryz.prog.wantsStandIn t = false by simpa using List.all_eq_true.1 hall t hm)⟩)
    (by kernel_rfl)
#print axioms proved
end Go.Proofs.YtdiiopjaebnmfaaGreatDoor.fnExactRunScript

