/-
  PROVED: FnScripts returns true for every input, and leaves its arguments as they were, where the table actWords stands as the program's text lays it (the tied card). (From the contract of the law's text to the given statement; written by vlaw.py.)
-/
import Derived.Test.YtdiiopjaebnmfaaGreatDoorZFnScriptsA
import Derived.Test.YtdiiopjaebnmfaaGreatDoorZFnScriptsB
import Derived.Test.YtdiiopjaebnmfaaGreatDoorZFnScriptsC
import Derived.Test.YtdiiopjaebnmfaaGreatDoorZFnScriptsD
import Derived.Test.YtdiiopjaebnmfaaGreatDoorZFnScriptsE
import Derived.Test.YtdiiopjaebnmfaaGreatDoorZFnScriptsF
import Derived.Test.YtdiiopjaebnmfaaGreatDoorZFnScriptsG
import Derived.Test.YtdiiopjaebnmfaaGreatDoorZFnScriptsH
import Derived.Test.YtdiiopjaebnmfaaGreatDoorZFnScriptsI
import Derived.Test.YtdiiopjaebnmfaaGreatDoorZFnScriptsJ
import Derived.Test.YtdiiopjaebnmfaaGreatDoorZFnScriptsK
import Derived.Test.YtdiiopjaebnmfaaGreatDoorZFnScriptsL
import Derived.Test.YtdiiopjaebnmfaaGreatDoorZFnScriptsM
import Derived.Test.YtdiiopjaebnmfaaGreatDoorZFnScriptsN
import Derived.Test.YtdiiopjaebnmfaaGreatDoorZFnScriptsO
import Derived.Test.YtdiiopjaebnmfaaGreatDoorZFnScriptsP
import Derived.Test.YtdiiopjaebnmfaaGreatDoorRows
import Derived.Test.YtdiiopjaebnmfaaGreatDoorCards
import Derived.Test.YtdiiopjaebnmfaaGreatDoorTie
import Derived.ChangeVars
import Derived.LaidMore
import Derived.Lay
import Derived.SevenTiedAt
import Derived.Stop.Joined
import Derived.ChangeOld
import Derived.Carry
namespace Go.Proofs.YtdiiopjaebnmfaaGreatDoor.fnScripts
open Go.ChangeShapes Go.WideShapes Go.ChangeAt Go.RowKit
open Go.ChangeMaps (open_string shut_string)
set_option linter.unusedVariables false

theorem own : ownKnob Tryz.prog.godebug = none := by kernel_rfl
theorem laidOut : laidOutB Tryz.prog = true := by kernel_rfl

theorem NS : Tryz.prog.globalNamed "loop.example/g00967/impl.actWords" = some 0 := by kernel_rfl
theorem NT : (Tryz.prog.globals[0]?).map (·.type) = some 104 := by kernel_rfl
theorem Qs : (Rows.laid_loop_example_g00967_impl_actWords : DataW Unit) = .agg (actTab.map fun l => .lit (.string l)) := by kernel_rfl
/-- The table's cells, where it stands as laid. -/
theorem DO {W : World} (h : laidMetH Tryz.prog Rows.fnScriptsRow.laid W) {r : Nat} {l : List UInt8} (hr : actTab[r]? = some l) : W.cell? ⟨0, r, none⟩ = some (.string ⟨l.toArray⟩) := by
  rw [MakeChecks.laidMetH_plain _ _ _ (by kernel_rfl)] at h
  obtain ⟨ps, ⟨g, t, cs, fuel, p, q, hg, ht, hv, hd, _, _⟩, _, _⟩ := h
  obtain rfl := Option.some.inj (NS.symm.trans hg)
  obtain rfl := Option.some.inj (NT.symm.trans ht)
  rw [Qs] at hd
  obtain ⟨xs, m, _, ex, _, hl, hel⟩ := DataW.trod_array Tryz.underlying104 hd
  have c1 : Tryz.prog.cellsOf 9 = 1 := by kernel_rfl
  have h13 : actTab.length = 13 := rfl
  have hlt : r < 13 := by have := (List.getElem?_eq_some_iff.1 hr).1; omega
  have hE := hel r hlt
  rw [c1, Nat.mul_one, List.getElem?_eq_getElem (by omega)] at hE
  obtain ⟨z, e1, e2, _⟩ := DataW.trod_string Tryz.underlying9 hE
  have e3 : (xs.map (·.1)) = actTab.map fun l => (DataW.lit (.string l) : DataW Unit) := (DataW.agg.inj (Prod.mk.inj ex).1).symm
  have e4 : (xs.map (·.1))[r]? = (actTab.map fun l => (DataW.lit (.string l) : DataW Unit))[r]? := by rw [e3]
  rw [List.getElem?_map, List.getElem?_map, List.getElem?_eq_getElem (by omega : r < xs.length), e2, hr] at e4
  have hz : z.data.toList = l := by simpa using e4
  rw [World.var?_cell hg hv r]
  have h0 : ((cs.toList.drop r).take 1)[0]? = some (.string z) := by rw [e1]; rfl
  have h1 : cs.toList[r]? = some (.string z) := by simpa using h0
  have h2 : (⟨l.toArray⟩ : ByteArray) = z := by rw [← hz]
  rw [h2]
  simpa using h1
theorem LE {W : World} (h : laidMetH Tryz.prog Rows.fnScriptsRow.laid W) : 0 < W.heap.size := by
  have h1 := DO h (r := 0) (l := []) rfl
  cases hz : W.heap[0]? with
  | none => simp [World.cell?, hz] at h1
  | some o => exact (Array.getElem?_eq_some_iff.1 hz).1
set_option maxRecDepth 100000 in
theorem lifted (os : Os) (started : os.Started) (H : Type) (enc : TypeId × Value → H) :
    ReturnsInHanded {} Tryz.checked os 3 .any (fun w args => (Rows.fnScriptsSpec.pre enc Tryz.prog Tryz.f3 Rows.fnScriptsRow.domain false w args ∧ laidMetH Tryz.prog Rows.fnScriptsRow.laid w) ∧ sizedMet enc Tryz.prog Tryz.f3 (OpenSpec.ofChange Rows.fnScriptsSpec) false w args)
      (Rows.fnScriptsSpec.post enc Tryz.prog Tryz.f3 false true false false) := by
  refine returnsInHanded_of_change_and (C := Tryz.checked) (X := fun w _ => laidMetH Tryz.prog Rows.fnScriptsRow.laid w) (fun _ _ _ hh h => h.of_heap hh) own started (by kernel_rfl) Tryz.func3
    (ChangeSpec.witness_shaped (enc := enc) (C := Tryz.checked) (os := os) (X := fun w _ => laidMetH Tryz.prog Rows.fnScriptsRow.laid w) false (World.laidAll Tryz.prog os Rows.fnScriptsRow.laid) #[.slice none 0 0] 8 (World.laidAll_os _ _ _)
      (World.shaped_of_ZipB (by kernel_rfl) (by kernel_rfl)) (by kernel_rfl) (by kernel_rfl) (by kernel_rfl)
      (by rw [MakeChecks.laidMetH_plain _ _ _ (by kernel_rfl)]; exact laidMet_laidAll _ (by kernel_rfl) (by kernel_rfl))) ?_
  intro W base args ds gs bS hval0 hW hcnd _ hL _
  have hval : ∀ (j : Nat) t v, Tryz.f3.params[j]? = some t → args[j]? = some v → Value.okWide Tryz.prog W .any base t v := hval0
  have hW' := hW
  obtain ⟨p, q, hA0, hV0, rfl, hfz, hnd⟩ := hW
  have hV : DataW.TrodVars enc Tryz.prog W (fun _ => true) ["loop.example/g00967/impl.actWords"] gs q := hV0
  have hA : DataW.TrodAll enc Tryz.prog W 0 (fun _ => true) true Tryz.f3.params.toList args.toList ds p := hA0
  rw [Tryz.params3] at hA hval
  obtain ⟨v0, vs0, d0, ds0, p0, q0, hargs, rfl, rfl, h0, r0⟩ := trodAll_cons hA
  obtain ⟨rfl, rfl, rfl⟩ := trodAll_nil r0
  obtain rfl : args = #[v0] := by cases args; simp_all
  obtain ⟨g, t, cs, fuel, d, p9, rfl, hg, ht, hvar, hd, rfl⟩ := trodVars_one hV
  obtain rfl := Option.some.inj (NS.symm.trans hg)
  obtain rfl := Option.some.inj (NT.symm.trans ht)
  have kv : DataW.Trod enc Tryz.prog W 0 (fun _ => true) true 104 (.agg cs) d p9 := ⟨fuel, hd⟩
  have ltv : ∀ x ∈ p9, x.block < W.heap.size := DataW.trod_lt fuel _ _ _ hd
  have k0 := h0
  have lt0 : ∀ x ∈ p0, x.block < W.heap.size := by obtain ⟨m, hm⟩ := k0; exact DataW.trod_lt m _ _ _ hm
  obtain ⟨A0, n0, c0, rfl⟩ := okWide_slice Tryz.underlying22 (hval 0 22 v0 rfl rfl)
  obtain ⟨fuel0, hf0⟩ := h0
  have s0 := BP (enc := enc) (w := W) 6 fuel0 22 [.sl [.byte]] _ _ (by kernel_rfl) hf0
  obtain ⟨_, _, e0, sl0, rfl⟩ := s0
  simp only [Value.cells, List.cons.injEq, and_true] at e0
  subst e0
  obtain ⟨a0, pl0, in0, ln0, w0⟩ := Mc ec [.byte] (fun _ => True) (fun _ => rfl) (fun _ h => Fc h) sl0
  obtain ⟨b0, hb0⟩ : ∃ b : Be, b = [pl0] := ⟨_, rfl⟩
  have bl0 : b0.length = 1 := by rw [hb0]; rfl
  clear hA0 hV0 hval0
  refine (LB (DN a0 ln0 w0) (β := [pl0]) (w := W) (LE hL) (fun _ _ h => DO hL h) (show OU _ _ [pl0] [some _] from ⟨⟨rfl, in0.ob _ _, Hs (fun _ => rfl) _⟩, trivial⟩) (vs := [.slice A0 n0 c0]) ⟨(in0.val _ _ (by rfl)), trivial⟩).mono fun e W' ⟨he, bel⟩ => ?_
  subst he
  have kv' := Below.trod laidOut (by kernel_rfl) (of_decide_eq_true (by kernel_rfl)) kv bel ltv
  have hvar' : W'.var? Tryz.prog "loop.example/g00967/impl.actWords" = some cs := by
    simp only [World.var?, hg, Option.bind_some] at hvar ⊢
    rw [bel.block 0 (LE hL)]
    exact hvar
  obtain ⟨fuel', hd'⟩ := kv'
  exact ⟨_, rfl, _, _, _, [], _, _, hW', trodAll_mk1 (shut_bool Tryz.underlying4 _), (trodAll_cons_mk (Below.trod laidOut (by kernel_rfl) (of_decide_eq_true (by kernel_rfl)) k0 bel lt0) trodAll_mk0), trodVars_mk1 hg ht hvar' hd', bel.frame _, fun h => by cases h⟩

theorem over : Rows.fnScriptsRow.holds Tryz.pinned (OpenSpec.ofChange Rows.fnScriptsSpec) :=
  OpenClaim.holds_of_wide 3 Tryz.f3 rfl rfl rfl rfl rfl rfl rfl ⟨rfl, rfl, rfl, rfl, rfl⟩ rfl rfl rfl rfl rfl (by kernel_rfl) Tryz.func3 (by kernel_rfl)
    (of_decide_eq_true (by kernel_rfl)) (by unfold Func.isWrapper; first | (rw [if_pos (by decide +kernel)]; kernel_rfl) | (rw [if_neg (by decide +kernel)]; exact ⟨rfl, rfl⟩))
    (fun os started H enc _ => lifted os started H enc)
/-- The statement: the tied card. -/
theorem proved : Rows.FnScriptsCardSaid :=
  Claim7.holds_tied_plain_at .later [] [.data] true Rows.fnScriptsCard.stood.harness false over (fun _ h => by cases h) (by kernel_rfl) (fun _ h => by cases h) fnScripts_row_tie rfl ⟨rfl, rfl⟩ (by kernel_rfl) rfl
    (fun f fn hf hfn => by
      obtain rfl : f = 3 := Option.some.inj ((show Tryz.prog.funcNamed "loop.example/g00967/laws.FnScripts" = some 3 by kernel_rfl).symm.trans hf) |>.symm
      obtain rfl : fn = Tryz.f3 := (Option.some.inj (Tryz.func3.symm.trans hfn)).symm
      exact ⟨by kernel_rfl, fun j t ht => by
        rw [Tryz.params3] at ht
        have hm : t ∈ [22] := by simpa using Array.mem_of_getElem? ht
        have hall : ([22].all fun u => !Tryz.prog.wantsStandIn u) = true := by kernel_rfl
        exact (show Tryz.prog.wantsStandIn t = false by simpa using List.all_eq_true.1 hall t hm)⟩)
    (by kernel_rfl)
#print axioms proved
end Go.Proofs.YtdiiopjaebnmfaaGreatDoor.fnScripts

