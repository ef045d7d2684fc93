/-
  VX: regions that draw, where some choices of order cannot be: such are passed over.
-/
import Derived.Test.YtoghbjbfldlfpaaVx16
namespace Go.Proofs.Ytoghbjbfldlfpaa
open Go.RowKit
set_option linter.unusedVariables false
set_option linter.unusedSimpArgs false

theorem drawn_before {r : Array Oper} (hb : backB r = true) : ∀ {τ : List Nat} {fuel : Nat} {listed : Array Bool}, Drawn r fuel listed τ → ∀ {p q : Nat} {o : Oper} {e : Edge}, r[q]? = some o → e ∈ o.after.toList → Region.binds .any e = true → e.on = p → listed.size = r.size → listed.getD p true = false → before τ p q = true
  | [], fuel, listed, _, p, q, o, e, ho, he, hbd, hp, _, _ => by
    have := back_lt hb ho he hbd
    simp only [before, decide_eq_true_eq]
    omega
  | i :: τ, 0, listed, h, _, _, _, _, _, _, _, _, _, _ => h.elim
  | i :: τ, fuel + 1, listed, ⟨hi, hd⟩, p, q, o, e, ho, he, hbd, hp, hsz, hl => by
    obtain ⟨oi, hoi, h1, h2⟩ := ready_iff.1 hi
    have hil : i < listed.size := by rw [hsz]; exact (Array.getElem?_eq_some_iff.1 hoi).1
    simp only [before]
    by_cases h3 : i = p
    · rw [if_pos h3]
    · rw [if_neg h3]
      by_cases h4 : i = q
      · exfalso
        subst h4
        rw [ho] at hoi
        cases hoi
        have h5 := h2 e he hbd
        rw [hp] at h5
        have hlt : p < listed.size := by
          have := back_lt hb ho he hbd
          have := (Array.getElem?_eq_some_iff.1 ho).1
          omega
        rw [Array.getD_eq_getD_getElem?, Array.getElem?_eq_getElem hlt] at h5 hl
        simp only [Option.getD_some] at h5 hl
        rw [h5] at hl
        cases hl
      · rw [if_neg h4]
        exact drawn_before hb hd ho he hbd hp (by simpa using hsz) (by rw [set_getD hil, if_neg h3]; exact hl)
theorem before_cyc {a b c : Nat} (h1 : a ≠ b) (h2 : b ≠ c) (h3 : a ≠ c) : ∀ {l : List Nat}, before l a b = true → before l b c = true → before l c a = true → False
  | [], x, y, z => by
    simp only [before, decide_eq_true_eq] at x y z
    omega
  | i :: l, x, y, z => by
    simp only [before] at x y z
    by_cases ha : i = a
    · subst ha
      rw [if_neg h3, if_pos rfl] at z
      cases z
    · rw [if_neg ha] at x
      by_cases hb : i = b
      · rw [if_pos hb] at x
        cases x
      · rw [if_neg hb] at x y
        by_cases hc : i = c
        · rw [if_pos hc] at y
          cases y
        · rw [if_neg hc] at y z
          rw [if_neg ha] at z
          exact before_cyc h1 h2 h3 x y z
def edgeB (r : Array Oper) (b c : Nat) : Bool := match r[c]? with
  | some o => o.after.toList.any fun e => Region.binds .any e && e.on == b
  | none => false
/-- Such a choice cannot be. -/
def badB (r : Array Oper) (ex : List (Nat × Nat)) : Bool := ex.any fun u => ex.any fun v => v.2 == u.1 && (u.1 != v.1 && (u.2 != v.1 && (u.1 != u.2 && (edgeB r u.2 v.1 && decide (u.2 < r.size)))))
def coverC (P : Program) (r : Array Oper) (U : List (Nat × Nat)) (os : List (List Nat)) : Bool :=
  backB r && U.all (fun u => u.1 != u.2) && os.all (fun σ => σ.length == r.size && (List.range r.size).all σ.contains && σ.all fun i => decide (i < r.size)) &&
  (let T := clo r; (choices U).all fun ex => badB r ex || os.any fun σ => okL P r T ex σ)
theorem wp_drawnC {P : Program} {E : Entry} {id : Nat} {r : Array Oper} {U : List (Nat × Nat)} {os : List (List Nat)} (hP : P.follows .mixedOrders = true) (hcov : coverC P r U os = true) {s : S} {K : S → Prop}
    (h : ∀ σ ∈ os, ∃ s', RunN P r σ s s' ∧ ∀ β a w, Sim E β s' a w → ∃ β' t, K t ∧ Sim E β' t a w) : Den P E (.region id r true) s fun e s' => e = .normal ∧ K s' := by
  intro β a w hs Q hQ
  refine wp_region_draw fun t => ?_
  simp only [Region.schedule, hP, Bool.true_or, if_true]
  simp only [coverC, Bool.and_eq_true] at hcov
  obtain ⟨⟨⟨hback, hU⟩, hperm⟩, hch⟩ := hcov
  have hd := drawn_go (r := r) r.size t (Array.replicate r.size false)
  obtain ⟨ex, hex, hbef⟩ := choice_of (Region.linearise .any r t) (U := U) fun u hu => by
    have := List.all_eq_true.1 hU u hu
    simpa using this
  have hsome := List.all_eq_true.1 hch ex hex
  rcases Bool.or_eq_true_iff.1 hsome with hbad | hsome
  · exfalso
    obtain ⟨u, hu, hbad⟩ := List.any_eq_true.1 hbad
    obtain ⟨v, hv, hbad⟩ := List.any_eq_true.1 hbad
    simp only [Bool.and_eq_true, beq_iff_eq, bne_iff_ne, ne_eq, decide_eq_true_eq] at hbad
    obtain ⟨h1, h2, h3, h4, h5, h6⟩ := hbad
    have b1 := hbef u.1 u.2 (by rw [List.contains_iff_mem]; exact hu)
    have b2 := hbef v.1 v.2 (by rw [List.contains_iff_mem]; exact hv)
    rw [h1] at b2
    unfold edgeB at h5
    split at h5
    · rename_i o ho
      obtain ⟨e, he, he2⟩ := List.any_eq_true.1 h5
      simp only [Bool.and_eq_true, beq_iff_eq] at he2
      have b3 := drawn_before hback hd ho he he2.1 he2.2 (by simp) (by simp [Array.getD_eq_getD_getElem?, h6])
      exact before_cyc h4 h3 h2 b1 b3 b2
    · cases h5
  · obtain ⟨σ, hσ, hok⟩ := List.any_eq_true.1 hsome
    have hp := List.all_eq_true.1 hperm σ hσ
    simp only [Bool.and_eq_true, beq_iff_eq, List.all_eq_true, List.mem_range, decide_eq_true_eq] at hp
    obtain ⟨⟨hlen, hall⟩, hlt⟩ := hp
    obtain ⟨s', hrun, hK⟩ := h σ hσ
    have hs2 : Sim E β s a { w with drawn := w.drawn + 1 } := ⟨hs.dfr, hs.sl, ⟨hs.hp.len, hs.hp.ob, hs.hp.flat, hs.hp.apart⟩, hs.ent, ⟨hs.st.le, hs.st.os, hs.st.tape, hs.st.output, hs.st.size, hs.st.block, hs.st.len, hs.st.old, hs.st.fresh⟩⟩
    refine ops_of_run hback (fun β' a' w' hs' => let ⟨β2, t2, hk2, hs2⟩ := hK β' a' w' hs'; hQ .normal t2 β2 a' w' ⟨rfl, hk2⟩ hs2) (Region.linearise .any r t) r.size _ σ s β a _ hd (by simp) (by omega) (fun i => ?_) (fun i o ho hl => ?_) hok (fun p q hpq _ _ => hbef p q hpq) hrun hs2
    · constructor
      · intro hi
        refine ⟨hlt i hi, ?_⟩
        simp [Array.getD_eq_getD_getElem?, hlt i hi]
      · rintro ⟨hi, _⟩
        simpa using hall i hi
    · exfalso
      simp only [Array.getD_eq_getD_getElem?, Array.getElem?_replicate] at hl
      split at hl <;> cases hl
theorem den_drawC {P : Program} {E : Entry} {F : S → Prop} {id : Nat} {r : Array Oper} {k : List Item} {s : S} {c : Prop} (U : List (Nat × Nat)) (os : List (List Nat)) (hP : P.follows .mixedOrders = true) (hc : c) (hcov : coverC P r U os = true)
    (h : allDn (fun σ => denD P r (fun s' => den P E F (.go k s' True)) (.go σ s True)) os) : den P E F (.draw id r k s c) := by
  refine ⟨hc, den_mono (wp_drawnC hP hcov (K := fun s' => den P E F (.go k s' True)) fun σ hσ => let ⟨s', h1, h2⟩ := (allDn_mem h σ hσ).2; ⟨s', h1, fun β a w hs => ⟨β, s', h2, hs⟩⟩) fun e s' hk => ?_⟩
  obtain ⟨rfl, hk⟩ := hk
  exact hk.2
end Go.Proofs.Ytoghbjbfldlfpaa
