/-
  Facts on who calls whom, from a rank of the functions.
-/
import Derived.JoinedOf
import Derived.KernelRfl
namespace Go.Proofs.YtoghbjbfldlfpaaGreat
open Go

def rkOf (R : Nat) (g : Nat) : Nat := (R >>> (10 * g)) % 1024
def okG (P : Program) (R lo hi : Nat) (g : Nat) : Bool :=
  match P.funcs[g]? with
  | none => true
  | some fn => ((P.leadsTo fn).all fun h => Nat.blt (rkOf R h) (rkOf R g) && (Nat.ble lo h && Nat.blt h hi)) && (!(fn.ours || fn.body.isNone || fn.name == "runtime.NumGoroutine") && (match fn.body with | some c => !c.unfollowed && c.globalsNamed.isEmpty | none => false))
theorem closureVia_sub {P : Program} {S : FuncId → Prop} (hS : ∀ g, S g → ∀ h ∈ (P.funcs[g]?).elim [] P.leadsTo, S h) : ∀ (n : Nat) (todo seen : List FuncId), (∀ x ∈ todo, S x) → (∀ x ∈ seen, S x) → ∀ x ∈ P.closureVia n todo seen, S x
  | 0, todo, seen, _, hs, x, hx => by
    unfold Program.closureVia at hx
    exact hs x (List.mem_reverse.1 hx)
  | n + 1, [], seen, _, hs, x, hx => by
    unfold Program.closureVia at hx
    exact hs x (List.mem_reverse.1 hx)
  | n + 1, f :: todo, seen, ht, hs, x, hx => by
    unfold Program.closureVia at hx
    split at hx
    · exact closureVia_sub hS n todo seen (fun y hy => ht y (List.mem_cons_of_mem _ hy)) hs x hx
    · refine closureVia_sub hS n _ (f :: seen) (fun y hy => ?_) (fun y hy => ?_) x hx
      · rcases List.mem_append.1 hy with hy | hy
        · exact hS f (ht f (List.mem_cons_self ..)) y hy
        · exact ht y (List.mem_cons_of_mem _ hy)
      · rcases List.mem_cons.1 hy with rfl | hy
        · exact ht y (List.mem_cons_self ..)
        · exact hs y hy
theorem closure_sub {P : Program} {S : FuncId → Prop} (hS : ∀ g, S g → ∀ h ∈ (P.funcs[g]?).elim [] P.leadsTo, S h) {f : FuncId} (hf : S f) : ∀ x ∈ P.closure f, S x :=
  closureVia_sub hS _ [f] [] (fun x hx => by rw [List.mem_singleton.1 hx]; exact hf) (fun x hx => by cases hx)
theorem rk_lt {P : Program} {R lo hi : Nat} (h : ∀ g, lo ≤ g ∧ g < hi → okG P R lo hi g = true) {g k : FuncId} (hb : lo ≤ g ∧ g < hi) (hk : k ∈ (P.funcs[g]?).elim [] P.leadsTo) : rkOf R k < rkOf R g ∧ lo ≤ k ∧ k < hi := by
  have hg := h g hb
  unfold okG at hg
  cases hf : P.funcs[g]? with
  | none => rw [hf] at hk; simp at hk
  | some fn =>
    rw [hf] at hg hk
    simp only [Bool.and_eq_true, List.all_eq_true, Nat.blt_eq, Nat.ble_eq] at hg
    exact hg.1 k hk
theorem graph_facts {P : Program} {R lo hi : Nat} (h : ∀ g, lo ≤ g ∧ g < hi → okG P R lo hi g = true) (f : FuncId) (hf0 : lo ≤ f ∧ f < hi) : P.inPlace f = [] ∧ P.unfollowed f = false ∧ P.recurses f = false ∧ P.varsNamed f = [] := by
  have hin : ∀ k, lo ≤ k ∧ k < hi → ∀ x ∈ P.closure k, lo ≤ x ∧ x < hi := fun k hk => closure_sub (S := fun x => lo ≤ x ∧ x < hi) (fun a ha b hb => (rk_lt h ha hb).2) hk
  have hu : P.unfollowed f = false := by
    unfold Program.unfollowed
    rw [List.any_eq_false]
    intro g hgc
    have hg := h g (hin f hf0 g hgc)
    unfold okG at hg
    cases hf : P.funcs[g]? with
    | none => simp
    | some fn =>
      rw [hf] at hg
      simp only [Bool.and_eq_true] at hg
      simp only [Option.any_some]
      cases hb : fn.body with
      | none => rw [hb] at hg; simp at hg
      | some c => rw [hb] at hg; simp at hg ⊢; exact hg.2.2.1
  refine ⟨?_, hu, ?_, ?_⟩
  · unfold Program.inPlace
    rw [List.filterMap_eq_nil_iff]
    intro g hgc
    have hg := h g (hin f hf0 g hgc)
    unfold okG at hg
    cases hf : P.funcs[g]? with
    | none => rfl
    | some fn =>
      rw [hf] at hg
      simp only [Bool.and_eq_true, Bool.not_eq_true'] at hg
      simp only [Option.bind_some]
      rw [hg.2.1]
      rfl
  · unfold Program.recurses
    rw [hu, Bool.false_or, List.any_eq_false]
    intro g hgc
    rw [Bool.not_eq_true, List.any_eq_false]
    intro k hk
    rw [Bool.not_eq_true]
    obtain ⟨h1, hkb⟩ := rk_lt h (hin f hf0 g hgc) hk
    have h2 : ∀ x ∈ P.closure k, rkOf R x ≤ rkOf R k ∧ lo ≤ x ∧ x < hi := closure_sub (S := fun x => rkOf R x ≤ rkOf R k ∧ lo ≤ x ∧ x < hi) (fun a ha b hb => ⟨Nat.le_trans (Nat.le_of_lt (rk_lt h ha.2 hb).1) ha.1, (rk_lt h ha.2 hb).2⟩) ⟨Nat.le_refl _, hkb⟩
    cases hc : (P.closure k).contains g with
    | false => rfl
    | true =>
      have := (h2 g (List.contains_iff_mem.1 hc)).1
      omega
  · unfold Program.varsNamed
    have e1 : ((P.closure f).flatMap fun g => ((P.funcs[g]?).bind (·.body)).elim [] Code.globalsNamed) = [] := by
      rw [List.flatMap_eq_nil_iff]
      intro g hgc
      have hg := h g (hin f hf0 g hgc)
      unfold okG at hg
      cases hf : P.funcs[g]? with
      | none => rfl
      | some fn =>
        rw [hf] at hg
        simp only [Bool.and_eq_true] at hg
        simp only [Option.bind_some]
        cases hb : fn.body with
        | none => rfl
        | some c => rw [hb] at hg; simp at hg ⊢; exact hg.2.2.2
    have e2 : ((P.closure f).filterMap fun g => (P.funcs[g]?).bind fun fn => if fn.body.isNone then entryReads.lookup fn.name else none) = [] := by
      rw [List.filterMap_eq_nil_iff]
      intro g hgc
      have hg := h g (hin f hf0 g hgc)
      unfold okG at hg
      cases hf : P.funcs[g]? with
      | none => rfl
      | some fn =>
        rw [hf] at hg
        simp only [Bool.and_eq_true] at hg
        simp only [Option.bind_some]
        cases hb : fn.body with
        | none => rw [hb] at hg; simp at hg
        | some c => rfl
    rw [e1, e2]
    rfl
/-! The head's words. -/
def chs (l : List Nat) : List Char := l.map Char.ofNat
theorem chs_app (a b : List Nat) : chs (a ++ b) = chs a ++ chs b := by simp [chs]
theorem chs_cons (a : Nat) (b : List Nat) : chs (a :: b) = Char.ofNat a :: chs b := rfl
theorem wordsSigns_cons {c : Char} (h : c ≠ Char.ofNat 32) (r : List Char) : wordsSigns (c :: r) = match wordsSigns r with
    | w :: ws => (c :: w) :: ws
    | [] => [[c]] := by
  conv => lhs; unfold wordsSigns
  split
  · rename_i e
    simp at e
  · rename_i r' e
    obtain ⟨e1, _⟩ := List.cons.inj e
    exact absurd e1 h
  · rename_i c' r' _ e
    obtain ⟨e1, e2⟩ := List.cons.inj e
    subst e1; subst e2
    rfl
theorem wordsSigns_word : ∀ {w : List Char} (r : List Char), (∀ c ∈ w, c ≠ Char.ofNat 32) → wordsSigns (w ++ Char.ofNat 32 :: r) = w :: wordsSigns r
  | [], r, _ => by
    show wordsSigns (Char.ofNat 32 :: r) = [] :: wordsSigns r
    conv => lhs; unfold wordsSigns
    rfl
  | c :: w, r, h => by
    rw [List.cons_append, wordsSigns_cons (h c (List.mem_cons_self ..)), wordsSigns_word r (fun x hx => h x (List.mem_cons_of_mem _ hx))]
/-- No blank. -/
def noBlank (l : List Nat) : Bool := (chs l).all fun c => c != Char.ofNat 32
theorem noBlank_mem {l : List Nat} (h : noBlank l = true) : ∀ c ∈ chs l, c ≠ Char.ofNat 32 := by
  intro c hc
  have := List.all_eq_true.1 h c hc
  simpa using this
theorem head_words {P : Program} {a b c r : List Nat} (h : P.initOrder = String.ofList (chs (a ++ 32 :: (b ++ 32 :: (c ++ 32 :: r))))) (ha : noBlank a = true) (hb : noBlank b = true) (hc : noBlank c = true)
    (hm : ((chs a == "harness".toList || chs a == "ownmain".toList) && isSumSigns (chs b)) = true) : ∃ rest, behindMainWord (wordsSigns P.initOrder.toList) = chs c :: rest := by
  refine ⟨wordsSigns (chs r), ?_⟩
  rw [h, String.toList_ofList, chs_app, chs_cons, chs_app, chs_cons, chs_app, chs_cons, wordsSigns_word _ (noBlank_mem ha), wordsSigns_word _ (noBlank_mem hb), wordsSigns_word _ (noBlank_mem hc)]
  exact if_pos hm
def cutN : List Nat := [99, 117, 116]
theorem make_cut {P : Program} {rest : List (List Char)} (h : behindMainWord (wordsSigns P.initOrder.toList) = chs cutN :: rest) : P.make = some .cut := by
  unfold Program.make
  rw [h]
  rfl
theorem final_cut {P : Program} {rest : List (List Char)} (h : behindMainWord (wordsSigns P.initOrder.toList) = chs cutN :: rest) : P.liftsFinal = false := by
  unfold Program.liftsFinal Program.headLifts
  rw [h]
  rfl
theorem may_cut {P : Program} {rest : List (List Char)} (h : behindMainWord (wordsSigns P.initOrder.toList) = chs cutN :: rest) (l1 : P.laysLater = false) (l2 : P.bearsReflect = false) (l3 : P.doorRows = []) : P.mayEnter = true := by
  have l4 : P.doorFits [] = true := by
    unfold Program.doorFits
    rw [l3]
    rfl
  unfold Program.mayEnter
  rw [h]
  show ((_ || _) || _) = true
  have e : stripLifts liftWords (chs cutN :: rest) = ([], chs cutN :: rest) := rfl
  rw [e, l1, l2, l4]
  simp only [List.contains_nil, Bool.and_true, Bool.not_false, Bool.or_true, List.head?_cons]
  rw [show (some (chs cutN) == some "cut".toList) = true from by kernel_rfl]
  simp
/-- What the kernel reckons of a row's closed facts; the others come by the rank and by the head's words. -/
def restFacts (P : Program) (f : FuncId) (fn : Func) (s : ChangeSpec) (c : OpenClaim) : Bool :=
  c.wf (OpenSpec.ofChange s) && laidOutB P && mapsRowed P &&
  fn.params.all (P.readableRec ·) && namedTie P c.named s.vars &&
  (c.stops == []) && (P.stops == []) && (c.knobs == []) && (P.stopKnobs == []) &&
  (c.maps == (fn.params.toList ++ s.plain.varTypes P).any (P.mapsRec ·)) && (c.ifaces == (fn.params.toList ++ s.plain.varTypes P).any (P.ifacesRec ·)) && (c.mapsOut == P.mapsAmong fn.resultTypes.toList) &&
  (c.loops == (fn.params.toList ++ s.plain.varTypes P).any (P.loopsFrom ·)) && (c.wideKeys == (fn.params.toList ++ s.plain.varTypes P ++ fn.resultTypes.toList).any (P.wideKeysFrom ·)) &&
  s.vars.all (P.varReadable ·) && fn.resultTypes.all (fun t => P.readableRec t && decide (t < P.types.size)) && (c.ifacesOut == fn.resultTypes.toList.any (P.ifacesRec ·)) && (c.loopsOut == fn.resultTypes.toList.any (P.loopsFrom ·)) && (c.plainKeys == P.plainKeys) && c.shortTexts.isNone && P.stopsHeard && (c.kinds == (if c.domain.isEmpty then [] else fn.params.toList.map fun t => match P.underlying t with | some (.int k) => some k | _ => none)) && (c.pinned == c.pinnedBy) &&
  (c.veiled == (fn.params.toList ++ s.plain.varTypes P ++ fn.resultTypes.toList).any (P.veiledRec ·)) && c.veiledFits P fn.params.toList (fn.params.toList ++ s.plain.varTypes P ++ fn.resultTypes.toList)
theorem joined_of {P : Program} {f : FuncId} {fn : Func} {s : ChangeSpec} {c : OpenClaim} (g : P.inPlace f = [] ∧ P.unfollowed f = false ∧ P.recurses f = false ∧ P.varsNamed f = []) (c1 : c.inPlace = []) (c2 : c.unfollowed = false) (c3 : c.recurses = false) (c4 : c.named = [])
    (m1 : P.mayEnter = true) (m2 : P.liftsFinal = false) (m3 : P.make = some .cut) (d2 : c.lifted = false) (d3 : c.make = .cut) (h : restFacts P f fn s c = true) : joinedFacts P f fn s c = true := by
  obtain ⟨g1, g2, g3, g4⟩ := g
  unfold restFacts at h
  unfold joinedFacts
  simp only [Bool.and_eq_true] at h ⊢
  obtain ⟨⟨⟨⟨⟨⟨⟨⟨⟨⟨⟨⟨⟨⟨⟨⟨⟨⟨⟨⟨⟨⟨⟨⟨k1, k2⟩, k3⟩, k4⟩, k5⟩, k6⟩, k7⟩, k8⟩, k9⟩, k14⟩, k15⟩, k16⟩, k17⟩, k17b⟩, k18⟩, k19⟩, k20⟩, k21⟩, k22⟩, k23⟩, k23b⟩, k25⟩, k26⟩, k27⟩, k28⟩ := h
  refine ⟨⟨⟨⟨⟨⟨⟨⟨⟨⟨⟨⟨⟨⟨⟨⟨⟨⟨⟨⟨⟨⟨⟨⟨⟨⟨⟨⟨⟨⟨⟨k1, k2⟩, k3⟩, k4⟩, k5⟩, k6⟩, k7⟩, k8⟩, k9⟩, ?_⟩, ?_⟩, ?_⟩, ?_⟩, k14⟩, k15⟩, k16⟩, k17⟩, k17b⟩, k18⟩, k19⟩, k20⟩, k21⟩, k22⟩, k23⟩, k23b⟩, m1⟩, ?_⟩, ?_⟩, k25⟩, k26⟩, k27⟩, k28⟩
  · rw [c1, g1]; rfl
  · rw [c2, g2]; rfl
  · rw [c3, g3]; rfl
  · rw [c4, g4]; rfl
  · rw [d2, m2]; rfl
  · rw [d3, m3]; exact beq_self_eq_true _
end Go.Proofs.YtoghbjbfldlfpaaGreat
