import Derived.Test.YtoghbjbfldlfpaaVModelG
import Derived.Test.YtoghbjbfldlfpaaVE5
namespace Go.Proofs.Ytoghbjbfldlfpaa
open Go.RowKit
set_option linter.unusedVariables false
set_option linter.unusedSimpArgs false
set_option maxRecDepth 20000

theorem impl_carriers (e : EndD) (hl : e.subs.length ≤ 1048576) : CallA Try.prog 131 [.ag (e.cs 0)] (e.hp false) (.sc (.sl 7 0 (carrN e.subs).length)) (e.hp false ++ [some ⟨(carrN e.subs).map natC, 1, 3, true, true⟩]) := by
  have hon := onN_len e.subs
  obtain ⟨q, hq⟩ : ∃ q, q = (onN e.subs).filter (nsp e.subs) := ⟨_, rfl⟩
  have hc : carrN e.subs = if q.length = 0 then onN e.subs else q := by rw [carrN, hq]
  have hqn : q.length ≤ 1048576 := by rw [hq]; exact Nat.le_trans (List.length_filter_le _ _) (by omega)
  generalize carrN e.subs = cn at hc
  refine callA_of Try.func131 (by kernel_rfl) rfl fun E hE => run_den 400 ?_
  simp (disch := omega) only [Try.ntmps131, Try.results131, go_sem, Nat.reduceEqDiff, Nat.reduceAdd, Nat.reduceSub, Int.reduceAdd, Int.reduceSub, Int.reduceToNat]
  refine den_call (by (try simp (disch := omega) only [go_sem, Nat.reduceEqDiff, Nat.reduceAdd, Nat.reduceSub, Int.reduceAdd, Int.reduceSub, Int.reduceToNat]) <;> omega) (impl_OnOf e hl) [some (0, none), some (1, none), some (2, none), some (3, none), some (4, none), some (5, none), some (6, none)] (by simp only [go_sem]; repeat' first | rfl | constructor) (by rfl) (run_den 400 ?_)
  simp (disch := omega) only [go_sem, Nat.reduceEqDiff, Nat.reduceAdd, Nat.reduceSub, Int.reduceAdd, Int.reduceSub, Int.reduceToNat]
  refine den_lp 7 hE (fun s (x : Nat × List Nat) => s.at [0, 6, 7, 8, 12, 13, 14, 15, 16, 17, 18, 19, 20, 21, 22, 23, 24, 25, 26] [(11, .sc (.int .i64 (x.1 : Nat))), (3, .sc (.sl 9 0 x.2.length))] (e.hp false ++ [some ⟨[e.cs 0], 25, 67, true, false⟩, some ⟨(onN e.subs).map natC, 1, 3, true, true⟩, some ⟨x.2.map natC, 1, 3, true, true⟩])) (fun (x : Nat × List Nat) => x.1 ≤ (onN e.subs).length ∧ x.2.length ≤ x.1 ∧ x.2 ++ ((onN e.subs).drop x.1).filter (nsp e.subs) = q) (fun (x : Nat × List Nat) => (onN e.subs).length - x.1) (0, []) [some (0, none), some (1, none), some (2, none), some (3, none), some (4, none), some (5, none), some (6, none), some (7, none), some (8, none), none] (by (try simp (disch := omega) only [go_sem, Nat.reduceEqDiff, Nat.reduceAdd, Nat.reduceSub, Int.reduceAdd, Int.reduceSub, Int.reduceToNat]) <;> omega) (⟨Nat.zero_le _, Nat.zero_le _, by rw [hq]; rfl⟩) (weak_mk (by rfl) (by rfl) ?_) fun x hx N hN => ?_
  · try simp (disch := omega) only [go_sem, Nat.reduceEqDiff, Nat.reduceAdd, Nat.reduceSub, Int.reduceAdd, Int.reduceSub, Int.reduceToNat]
  · obtain ⟨k, acc⟩ := x
    obtain ⟨hk1, hk2, hk3⟩ := hx
    dsimp only at hk1 hk2 hk3
    refine run_den 400 ?_
    try simp (disch := omega) only [go_sem, Nat.reduceEqDiff, Nat.reduceAdd, Nat.reduceSub, Int.reduceAdd, Int.reduceSub, Int.reduceToNat]
    split <;> rename_i h <;> (try simp only [beq_true, beq_false, Bool.not_eq_true', Bool.not_eq_false'] at h) <;> simp (disch := omega) only [go_sem, Nat.reduceEqDiff, Nat.reduceAdd, Nat.reduceSub, Int.reduceAdd, Int.reduceSub, Int.reduceToNat, h] <;> (try simp only [decide_eq_true_eq, decide_eq_false_iff_not, beq_iff_eq, beq_eq_false_iff_ne, bne_iff_ne, bne_eq_false_iff_eq, ne_eq, Decidable.not_not, Bool.and_eq_true, Bool.and_eq_false_iff, Bool.or_eq_true, Bool.or_eq_false_iff, Int.ofNat_lt, Int.ofNat_le, Bool.not_eq_eq_eq_not, Bool.not_true, Bool.not_false] at h) <;> try simp (disch := omega) only [go_sem, Nat.reduceEqDiff, Nat.reduceAdd, Nat.reduceSub, Int.reduceAdd, Int.reduceSub, Int.reduceToNat]
    · have hlt := onN_lt h
      rw [filter_step h] at hk3
      try simp (disch := omega) only [go_sem, Nat.reduceEqDiff, Nat.reduceAdd, Nat.reduceSub, Int.reduceAdd, Int.reduceSub, Int.reduceToNat]
      cases h2 : e.subs[(onN e.subs)[k]].spare with
      | false =>
        have hp : nsp e.subs (onN e.subs)[k] = true := by rw [nsp, subAtN_eq hlt, h2]; rfl
        rw [if_pos hp] at hk3
        try simp (disch := omega) only [go_sem, Nat.reduceEqDiff, Nat.reduceAdd, Nat.reduceSub, Int.reduceAdd, Int.reduceSub, Int.reduceToNat, h2]
        refine ⟨by (try simp (disch := omega) only [go_sem, Nat.reduceEqDiff, Nat.reduceAdd, Nat.reduceSub, Int.reduceAdd, Int.reduceSub, Int.reduceToNat]) <;> omega, hN _ (k + 1, acc ++ [(onN e.subs)[k]]) [some (0, none), some (1, none), some (2, none), some (3, none), some (4, none), some (5, none), some (6, none), some (7, none), some (8, none), some (11, none)] (by (try dsimp only); exact ⟨by omega, by simp; omega, by simpa using hk3⟩) (by (try dsimp only); omega) (weak_mk (by rfl) (by rfl) ?_)⟩
        try simp (disch := omega) only [go_sem, Nat.reduceEqDiff, Nat.reduceAdd, Nat.reduceSub, Int.reduceAdd, Int.reduceSub, Int.reduceToNat]
        try simp [natC]
      | true =>
        have hp : nsp e.subs (onN e.subs)[k] = false := by rw [nsp, subAtN_eq hlt, h2]; rfl
        rw [if_neg (by simp [hp])] at hk3
        try simp (disch := omega) only [go_sem, Nat.reduceEqDiff, Nat.reduceAdd, Nat.reduceSub, Int.reduceAdd, Int.reduceSub, Int.reduceToNat, h2]
        refine ⟨by (try simp (disch := omega) only [go_sem, Nat.reduceEqDiff, Nat.reduceAdd, Nat.reduceSub, Int.reduceAdd, Int.reduceSub, Int.reduceToNat]) <;> omega, hN _ (k + 1, acc) [some (0, none), some (1, none), some (2, none), some (3, none), some (4, none), some (5, none), some (6, none), some (7, none), some (8, none), some (9, none)] (by (try dsimp only); exact ⟨by omega, by omega, hk3⟩) (by (try dsimp only); omega) (weak_mk (by rfl) (by rfl) ?_)⟩
        try simp (disch := omega) only [go_sem, Nat.reduceEqDiff, Nat.reduceAdd, Nat.reduceSub, Int.reduceAdd, Int.reduceSub, Int.reduceToNat]
    · rw [List.drop_eq_nil_of_le (by omega), List.filter_nil, List.append_nil] at hk3
      subst hk3
      try simp (disch := omega) only [go_sem, Nat.reduceEqDiff, Nat.reduceAdd, Nat.reduceSub, Int.reduceAdd, Int.reduceSub, Int.reduceToNat]
      split <;> rename_i h2 <;> (try simp only [beq_true, beq_false, Bool.not_eq_true', Bool.not_eq_false'] at h2) <;> simp (disch := omega) only [go_sem, Nat.reduceEqDiff, Nat.reduceAdd, Nat.reduceSub, Int.reduceAdd, Int.reduceSub, Int.reduceToNat, h2] <;> (try simp only [decide_eq_true_eq, decide_eq_false_iff_not, beq_iff_eq, beq_eq_false_iff_ne, bne_iff_ne, bne_eq_false_iff_eq, ne_eq, Decidable.not_not, Bool.and_eq_true, Bool.and_eq_false_iff, Bool.or_eq_true, Bool.or_eq_false_iff, Int.ofNat_lt, Int.ofNat_le, Bool.not_eq_eq_eq_not, Bool.not_true, Bool.not_false] at h2) <;> try simp (disch := omega) only [go_sem, Nat.reduceEqDiff, Nat.reduceAdd, Nat.reduceSub, Int.reduceAdd, Int.reduceSub, Int.reduceToNat]
      · rw [if_pos (by omega)] at hc
        subst hc
        refine den_fin [some (0, none), some (1, none), some (2, none), some (3, none), some (4, none), some (5, none), some (6, none), some (8, none)] (by (try simp (disch := omega) only [go_sem, Nat.reduceEqDiff, Nat.reduceAdd, Nat.reduceSub, Int.reduceAdd, Int.reduceSub, Int.reduceToNat]) <;> omega) _ (by simp only [go_sem]; rfl) (by rfl) (by rfl) ?_
        simp (disch := omega) only [go_sem, Nat.reduceEqDiff, Nat.reduceAdd, Nat.reduceSub, Int.reduceAdd, Int.reduceSub, Int.reduceToNat]
      · rw [if_neg (by omega)] at hc
        subst hc
        refine den_fin [some (0, none), some (1, none), some (2, none), some (3, none), some (4, none), some (5, none), some (6, none), some (9, none)] (by (try simp (disch := omega) only [go_sem, Nat.reduceEqDiff, Nat.reduceAdd, Nat.reduceSub, Int.reduceAdd, Int.reduceSub, Int.reduceToNat]) <;> omega) _ (by simp only [go_sem]; rfl) (by rfl) (by rfl) ?_
        simp (disch := omega) only [go_sem, Nat.reduceEqDiff, Nat.reduceAdd, Nat.reduceSub, Int.reduceAdd, Int.reduceSub, Int.reduceToNat]
set_option maxHeartbeats 4000000 in
theorem impl_EvenIn (e : EndD) (list : List Int) (hl : e.subs.length ≤ 1048576) (hlist : list.length ≤ 1048576) (hw : ∀ x ∈ list, I64 x) : CallA Try.prog 43 [.ag (e.cs 0), .sc (.sl 7 0 list.length)] (e.hp false ++ [some ⟨list.map intC, 1, 3, false, true⟩]) (.sc (.bo (evenIn e list))) (e.hp false ++ [some ⟨list.map intC, 1, 3, false, true⟩]) := by
  have hcn := carrN_len e.subs
  refine callA_of Try.func43 (by kernel_rfl) rfl fun E hE => run_den 400 ?_
  simp (disch := omega) only [Try.ntmps43, Try.results43, go_sem, Nat.reduceEqDiff, Nat.reduceAdd, Nat.reduceSub, Int.reduceAdd, Int.reduceSub, Int.reduceToNat]
  split <;> rename_i h1 <;> (try simp only [beq_true, beq_false, Bool.not_eq_true', Bool.not_eq_false'] at h1) <;> simp (disch := omega) only [go_sem, Nat.reduceEqDiff, Nat.reduceAdd, Nat.reduceSub, Int.reduceAdd, Int.reduceSub, Int.reduceToNat, h1] <;> (try simp only [decide_eq_true_eq, decide_eq_false_iff_not, beq_iff_eq, beq_eq_false_iff_ne, bne_iff_ne, bne_eq_false_iff_eq, ne_eq, Decidable.not_not, Bool.and_eq_true, Bool.and_eq_false_iff, Bool.or_eq_true, Bool.or_eq_false_iff, Int.ofNat_lt, Int.ofNat_le, Bool.not_eq_eq_eq_not, Bool.not_true, Bool.not_false] at h1) <;> try simp (disch := omega) only [go_sem, Nat.reduceEqDiff, Nat.reduceAdd, Nat.reduceSub, Int.reduceAdd, Int.reduceSub, Int.reduceToNat]
  · have hr : evenIn e list = false := by simp [evenIn]; omega
    rw [hr]
    refine den_fin [some (0, none), some (1, none), some (2, none), some (3, none), some (4, none), some (5, none), some (6, none), some (7, none)] (by (try simp (disch := omega) only [go_sem, Nat.reduceEqDiff, Nat.reduceAdd, Nat.reduceSub, Int.reduceAdd, Int.reduceSub, Int.reduceToNat]) <;> omega) _ (by simp only [go_sem]; rfl) (by rfl) (by rfl) ?_
    simp (disch := omega) only [go_sem, Nat.reduceEqDiff, Nat.reduceAdd, Nat.reduceSub, Int.reduceAdd, Int.reduceSub, Int.reduceToNat]
  · have hr : evenIn e list = evenI (valsOf e.subs list) := by simp [evenIn, h1]
    rw [hr]
    obtain ⟨v, hv⟩ : ∃ v, v = valsOf e.subs list := ⟨_, rfl⟩
    have hvl : v.length = (carrN e.subs).length := by rw [hv, valsOf, List.length_map]
    rw [← hv]
    rw [valsOf] at hv
    try simp (disch := omega) only [go_sem, Nat.reduceEqDiff, Nat.reduceAdd, Nat.reduceSub, Int.reduceAdd, Int.reduceSub, Int.reduceToNat]
    refine den_call (by (try simp (disch := omega) only [go_sem, Nat.reduceEqDiff, Nat.reduceAdd, Nat.reduceSub, Int.reduceAdd, Int.reduceSub, Int.reduceToNat]) <;> omega) (impl_carriers e hl) [some (0, none), some (1, none), some (2, none), some (3, none), some (4, none), some (5, none), some (6, none)] (by simp only [go_sem]; repeat' first | rfl | constructor) (by rfl) (run_den 400 ?_)
    simp (disch := omega) only [go_sem, Nat.reduceEqDiff, Nat.reduceAdd, Nat.reduceSub, Int.reduceAdd, Int.reduceSub, Int.reduceToNat]
    refine den_lp 8 hE (fun s (x : Nat × List Int) => s.at [0, 2, 7, 12, 13, 14, 15, 16, 17, 18, 22, 23, 24, 25, 26, 27, 28, 29, 30, 31, 32] [(21, .sc (.int .i64 (x.1 : Nat))), (5, .sc (.sl 10 0 x.2.length))] (e.hp false ++ [some ⟨list.map intC, 1, 3, false, true⟩, some ⟨[e.cs 0], 25, 67, true, false⟩, some ⟨(carrN e.subs).map natC, 1, 3, true, true⟩, some ⟨x.2.map intC, 1, 3, true, true⟩])) (fun (x : Nat × List Int) => x.1 ≤ (carrN e.subs).length ∧ x.2.length ≤ x.1 ∧ x.2 ++ ((carrN e.subs).drop x.1).map (atI list) = v) (fun (x : Nat × List Int) => (carrN e.subs).length - x.1) (0, []) [some (0, none), some (1, none), some (2, none), some (3, none), some (4, none), some (5, none), some (6, none), some (7, none), some (8, none), some (9, none), none] (by (try simp (disch := omega) only [go_sem, Nat.reduceEqDiff, Nat.reduceAdd, Nat.reduceSub, Int.reduceAdd, Int.reduceSub, Int.reduceToNat]) <;> omega) (⟨Nat.zero_le _, Nat.zero_le _, by rw [hv]; rfl⟩) (weak_mk (by rfl) (by rfl) ?_) fun x hx N hN => ?_
    · try simp (disch := omega) only [go_sem, Nat.reduceEqDiff, Nat.reduceAdd, Nat.reduceSub, Int.reduceAdd, Int.reduceSub, Int.reduceToNat]
    · obtain ⟨k, acc⟩ := x
      obtain ⟨hk1, hk2, hk3⟩ := hx
      dsimp only at hk1 hk2 hk3
      refine run_den 400 ?_
      try simp (disch := omega) only [go_sem, Nat.reduceEqDiff, Nat.reduceAdd, Nat.reduceSub, Int.reduceAdd, Int.reduceSub, Int.reduceToNat]
      split <;> rename_i h <;> (try simp only [beq_true, beq_false, Bool.not_eq_true', Bool.not_eq_false'] at h) <;> simp (disch := omega) only [go_sem, Nat.reduceEqDiff, Nat.reduceAdd, Nat.reduceSub, Int.reduceAdd, Int.reduceSub, Int.reduceToNat, h] <;> (try simp only [decide_eq_true_eq, decide_eq_false_iff_not, beq_iff_eq, beq_eq_false_iff_ne, bne_iff_ne, bne_eq_false_iff_eq, ne_eq, Decidable.not_not, Bool.and_eq_true, Bool.and_eq_false_iff, Bool.or_eq_true, Bool.or_eq_false_iff, Int.ofNat_lt, Int.ofNat_le, Bool.not_eq_eq_eq_not, Bool.not_true, Bool.not_false] at h) <;> try simp (disch := omega) only [go_sem, Nat.reduceEqDiff, Nat.reduceAdd, Nat.reduceSub, Int.reduceAdd, Int.reduceSub, Int.reduceToNat]
      · have hlt : (carrN e.subs)[k] < list.length := by
          have := carrN_lt (List.getElem_mem h)
          omega
        rw [map_step h, atI_eq hlt] at hk3
        try simp (disch := omega) only [go_sem, Nat.reduceEqDiff, Nat.reduceAdd, Nat.reduceSub, Int.reduceAdd, Int.reduceSub, Int.reduceToNat]
        refine ⟨by (try simp (disch := omega) only [go_sem, Nat.reduceEqDiff, Nat.reduceAdd, Nat.reduceSub, Int.reduceAdd, Int.reduceSub, Int.reduceToNat]) <;> omega, hN _ (k + 1, acc ++ [list[(carrN e.subs)[k]]]) [some (0, none), some (1, none), some (2, none), some (3, none), some (4, none), some (5, none), some (6, none), some (7, none), some (8, none), some (9, none), some (12, none)] (by (try dsimp only); exact ⟨by omega, by simp; omega, by simpa using hk3⟩) (by (try dsimp only); omega) (weak_mk (by rfl) (by rfl) ?_)⟩
        try simp (disch := omega) only [go_sem, Nat.reduceEqDiff, Nat.reduceAdd, Nat.reduceSub, Int.reduceAdd, Int.reduceSub, Int.reduceToNat]
        try simp [intC]
      · rw [List.drop_eq_nil_of_le (by omega), List.map_nil, List.append_nil] at hk3
        subst hk3
        try simp (disch := omega) only [go_sem, Nat.reduceEqDiff, Nat.reduceAdd, Nat.reduceSub, Int.reduceAdd, Int.reduceSub, Int.reduceToNat]
        refine den_lp 8 hE (fun s (i : Nat) => s.at [0, 1, 2, 4, 7, 9, 11, 12, 13, 14, 15, 16, 17, 18, 19, 20, 21, 22, 23, 24, 25, 26, 27, 28, 29, 30, 31, 32, 36, 37, 38, 39, 40, 41, 42, 43, 44, 45, 46, 47, 48, 49, 50, 51, 52, 53, 54, 55, 56, 57] [(35, .sc (.int .i64 (i : Nat)))] (s.hp)) (fun (i : Nat) => i ≤ acc.length ∧ (acc.drop i).all (fun a => acc.all fun b => !wide2 a b) = evenI acc) (fun (i : Nat) => acc.length - i) 0 [some (0, none), some (1, none), some (2, none), some (3, none), some (4, none), some (5, none), some (6, none), some (7, none), some (8, none), some (9, none), some (10, none)] (by (try simp (disch := omega) only [go_sem, Nat.reduceEqDiff, Nat.reduceAdd, Nat.reduceSub, Int.reduceAdd, Int.reduceSub, Int.reduceToNat]) <;> omega) (⟨Nat.zero_le _, rfl⟩) (weak_mk (by rfl) (by rfl) ?_) fun i hi N hN => ?_
        · try simp (disch := omega) only [go_sem, Nat.reduceEqDiff, Nat.reduceAdd, Nat.reduceSub, Int.reduceAdd, Int.reduceSub, Int.reduceToNat]
        · obtain ⟨hi1, hi2⟩ := hi
          refine run_den 400 ?_
          try simp (disch := omega) only [go_sem, Nat.reduceEqDiff, Nat.reduceAdd, Nat.reduceSub, Int.reduceAdd, Int.reduceSub, Int.reduceToNat]
          split <;> rename_i h3 <;> (try simp only [beq_true, beq_false, Bool.not_eq_true', Bool.not_eq_false'] at h3) <;> simp (disch := omega) only [go_sem, Nat.reduceEqDiff, Nat.reduceAdd, Nat.reduceSub, Int.reduceAdd, Int.reduceSub, Int.reduceToNat, h3] <;> (try simp only [decide_eq_true_eq, decide_eq_false_iff_not, beq_iff_eq, beq_eq_false_iff_ne, bne_iff_ne, bne_eq_false_iff_eq, ne_eq, Decidable.not_not, Bool.and_eq_true, Bool.and_eq_false_iff, Bool.or_eq_true, Bool.or_eq_false_iff, Int.ofNat_lt, Int.ofNat_le, Bool.not_eq_eq_eq_not, Bool.not_true, Bool.not_false] at h3) <;> try simp (disch := omega) only [go_sem, Nat.reduceEqDiff, Nat.reduceAdd, Nat.reduceSub, Int.reduceAdd, Int.reduceSub, Int.reduceToNat]
          · rw [all_step h3] at hi2
            try simp (disch := omega) only [go_sem, Nat.reduceEqDiff, Nat.reduceAdd, Nat.reduceSub, Int.reduceAdd, Int.reduceSub, Int.reduceToNat]
            refine den_lp 8 hE (fun s (j : Nat) => s.at [0, 1, 2, 4, 7, 11, 12, 13, 14, 15, 16, 17, 18, 19, 20, 21, 22, 23, 24, 25, 26, 27, 28, 29, 30, 31, 32, 37, 38, 42, 43, 44, 45, 46, 47, 48, 49, 50, 51, 52, 53, 54, 55, 56, 57] [(41, .sc (.int .i64 (j : Nat)))] (s.hp)) (fun (j : Nat) => j ≤ acc.length ∧ (acc.drop j).all (fun b => !wide2 acc[i] b) = (acc.all fun b => !wide2 acc[i] b)) (fun (j : Nat) => acc.length - j) 0 [some (0, none), some (1, none), some (2, none), some (3, none), some (4, none), some (5, none), some (6, none), some (7, none), some (8, none), some (9, none), some (10, none)] (by (try simp (disch := omega) only [go_sem, Nat.reduceEqDiff, Nat.reduceAdd, Nat.reduceSub, Int.reduceAdd, Int.reduceSub, Int.reduceToNat]) <;> omega) (⟨Nat.zero_le _, rfl⟩) (weak_mk (by rfl) (by rfl) ?_) fun j hj N2 hN2 => ?_
            · try simp (disch := omega) only [go_sem, Nat.reduceEqDiff, Nat.reduceAdd, Nat.reduceSub, Int.reduceAdd, Int.reduceSub, Int.reduceToNat]
            · obtain ⟨hj1, hj2⟩ := hj
              refine run_den 400 ?_
              try simp (disch := omega) only [go_sem, Nat.reduceEqDiff, Nat.reduceAdd, Nat.reduceSub, Int.reduceAdd, Int.reduceSub, Int.reduceToNat]
              split <;> rename_i h4 <;> (try simp only [beq_true, beq_false, Bool.not_eq_true', Bool.not_eq_false'] at h4) <;> simp (disch := omega) only [go_sem, Nat.reduceEqDiff, Nat.reduceAdd, Nat.reduceSub, Int.reduceAdd, Int.reduceSub, Int.reduceToNat, h4] <;> (try simp only [decide_eq_true_eq, decide_eq_false_iff_not, beq_iff_eq, beq_eq_false_iff_ne, bne_iff_ne, bne_eq_false_iff_eq, ne_eq, Decidable.not_not, Bool.and_eq_true, Bool.and_eq_false_iff, Bool.or_eq_true, Bool.or_eq_false_iff, Int.ofNat_lt, Int.ofNat_le, Bool.not_eq_eq_eq_not, Bool.not_true, Bool.not_false] at h4) <;> try simp (disch := omega) only [go_sem, Nat.reduceEqDiff, Nat.reduceAdd, Nat.reduceSub, Int.reduceAdd, Int.reduceSub, Int.reduceToNat]
              · rw [all_step h4] at hj2
                try simp (disch := omega) only [go_sem, Nat.reduceEqDiff, Nat.reduceAdd, Nat.reduceSub, Int.reduceAdd, Int.reduceSub, Int.reduceToNat]
                split <;> rename_i h5 <;> (try simp only [beq_true, beq_false, Bool.not_eq_true', Bool.not_eq_false'] at h5) <;> simp (disch := omega) only [go_sem, Nat.reduceEqDiff, Nat.reduceAdd, Nat.reduceSub, Int.reduceAdd, Int.reduceSub, Int.reduceToNat, h5] <;> (try simp only [decide_eq_true_eq, decide_eq_false_iff_not, beq_iff_eq, beq_eq_false_iff_ne, bne_iff_ne, bne_eq_false_iff_eq, ne_eq, Decidable.not_not, Bool.and_eq_true, Bool.and_eq_false_iff, Bool.or_eq_true, Bool.or_eq_false_iff, Int.ofNat_lt, Int.ofNat_le, Bool.not_eq_eq_eq_not, Bool.not_true, Bool.not_false] at h5) <;> try simp (disch := omega) only [go_sem, Nat.reduceEqDiff, Nat.reduceAdd, Nat.reduceSub, Int.reduceAdd, Int.reduceSub, Int.reduceToNat]
                · split <;> rename_i h6 <;> (try simp only [beq_true, beq_false, Bool.not_eq_true', Bool.not_eq_false'] at h6) <;> simp (disch := omega) only [go_sem, Nat.reduceEqDiff, Nat.reduceAdd, Nat.reduceSub, Int.reduceAdd, Int.reduceSub, Int.reduceToNat, h6] <;> (try simp only [decide_eq_true_eq, decide_eq_false_iff_not, beq_iff_eq, beq_eq_false_iff_ne, bne_iff_ne, bne_eq_false_iff_eq, ne_eq, Decidable.not_not, Bool.and_eq_true, Bool.and_eq_false_iff, Bool.or_eq_true, Bool.or_eq_false_iff, Int.ofNat_lt, Int.ofNat_le, Bool.not_eq_eq_eq_not, Bool.not_true, Bool.not_false] at h6) <;> try simp (disch := omega) only [go_sem, Nat.reduceEqDiff, Nat.reduceAdd, Nat.reduceSub, Int.reduceAdd, Int.reduceSub, Int.reduceToNat]
                  · have hp : wide2 acc[i] acc[j] = true := by simp [wide2, h5, h6]
                    rw [hp] at hj2
                    rw [← hj2] at hi2
                    refine den_fin [some (0, none), some (1, none), some (2, none), some (3, none), some (4, none), some (5, none), some (6, none), some (7, none)] (by (try simp (disch := omega) only [go_sem, Nat.reduceEqDiff, Nat.reduceAdd, Nat.reduceSub, Int.reduceAdd, Int.reduceSub, Int.reduceToNat]) <;> omega) _ (by simp only [go_sem]; rfl) (by rfl) (by rfl) ?_
                    simp (disch := omega) only [go_sem, Nat.reduceEqDiff, Nat.reduceAdd, Nat.reduceSub, Int.reduceAdd, Int.reduceSub, Int.reduceToNat]
                    exact hi2
                  · have hp : wide2 acc[i] acc[j] = false := by simp [wide2]; omega
                    rw [hp] at hj2
                    refine ⟨by (try simp (disch := omega) only [go_sem, Nat.reduceEqDiff, Nat.reduceAdd, Nat.reduceSub, Int.reduceAdd, Int.reduceSub, Int.reduceToNat]) <;> omega, hN2 _ (j + 1) [some (0, none), some (1, none), some (2, none), some (3, none), some (4, none), some (5, none), some (6, none), some (7, none), some (8, none), some (9, none), some (10, none)] (by (try dsimp only); exact ⟨by omega, hj2⟩) (by (try dsimp only); omega) (weak_mk (by rfl) (by rfl) ?_)⟩
                    try simp (disch := omega) only [go_sem, Nat.reduceEqDiff, Nat.reduceAdd, Nat.reduceSub, Int.reduceAdd, Int.reduceSub, Int.reduceToNat]
                · have hp : wide2 acc[i] acc[j] = false := by simp [wide2]; omega
                  rw [hp] at hj2
                  refine ⟨by (try simp (disch := omega) only [go_sem, Nat.reduceEqDiff, Nat.reduceAdd, Nat.reduceSub, Int.reduceAdd, Int.reduceSub, Int.reduceToNat]) <;> omega, hN2 _ (j + 1) [some (0, none), some (1, none), some (2, none), some (3, none), some (4, none), some (5, none), some (6, none), some (7, none), some (8, none), some (9, none), some (10, none)] (by (try dsimp only); exact ⟨by omega, hj2⟩) (by (try dsimp only); omega) (weak_mk (by rfl) (by rfl) ?_)⟩
                  try simp (disch := omega) only [go_sem, Nat.reduceEqDiff, Nat.reduceAdd, Nat.reduceSub, Int.reduceAdd, Int.reduceSub, Int.reduceToNat]
              · rw [all_end (by omega)] at hj2
                rw [← hj2] at hi2
                refine ⟨by (try simp (disch := omega) only [go_sem, Nat.reduceEqDiff, Nat.reduceAdd, Nat.reduceSub, Int.reduceAdd, Int.reduceSub, Int.reduceToNat]) <;> omega, hN _ (i + 1) [some (0, none), some (1, none), some (2, none), some (3, none), some (4, none), some (5, none), some (6, none), some (7, none), some (8, none), some (9, none), some (10, none)] (by (try dsimp only); exact ⟨by omega, hi2⟩) (by (try dsimp only); omega) (weak_mk (by rfl) (by rfl) ?_)⟩
                try simp (disch := omega) only [go_sem, Nat.reduceEqDiff, Nat.reduceAdd, Nat.reduceSub, Int.reduceAdd, Int.reduceSub, Int.reduceToNat]
          · rw [all_end (by omega)] at hi2
            refine den_fin [some (0, none), some (1, none), some (2, none), some (3, none), some (4, none), some (5, none), some (6, none), some (7, none)] (by (try simp (disch := omega) only [go_sem, Nat.reduceEqDiff, Nat.reduceAdd, Nat.reduceSub, Int.reduceAdd, Int.reduceSub, Int.reduceToNat]) <;> omega) _ (by simp only [go_sem]; rfl) (by rfl) (by rfl) ?_
            simp (disch := omega) only [go_sem, Nat.reduceEqDiff, Nat.reduceAdd, Nat.reduceSub, Int.reduceAdd, Int.reduceSub, Int.reduceToNat]
            exact hi2
set_option maxHeartbeats 4000000 in
theorem spec_EvenIn (e : EndD) (list : List Int) (hl : e.subs.length ≤ 1048576) (hlist : list.length ≤ 1048576) (hw : ∀ x ∈ list, I64 x) : CallA Try.prog 41 [.ag (e.cs 0), .sc (.sl 7 0 list.length)] (e.hp false ++ [some ⟨list.map intC, 1, 3, false, true⟩]) (.sc (.bo (evenIn e list))) (e.hp false ++ [some ⟨list.map intC, 1, 3, false, true⟩]) := by
  have hon := onN_len e.subs
  refine callA_of Try.func41 (by kernel_rfl) rfl fun E hE => run_den 400 ?_
  simp (disch := omega) only [Try.ntmps41, Try.results41, go_sem, Nat.reduceEqDiff, Nat.reduceAdd, Nat.reduceSub, Int.reduceAdd, Int.reduceSub, Int.reduceToNat]
  split <;> rename_i h1 <;> (try simp only [beq_true, beq_false, Bool.not_eq_true', Bool.not_eq_false'] at h1) <;> simp (disch := omega) only [go_sem, Nat.reduceEqDiff, Nat.reduceAdd, Nat.reduceSub, Int.reduceAdd, Int.reduceSub, Int.reduceToNat, h1] <;> (try simp only [decide_eq_true_eq, decide_eq_false_iff_not, beq_iff_eq, beq_eq_false_iff_ne, bne_iff_ne, bne_eq_false_iff_eq, ne_eq, Decidable.not_not, Bool.and_eq_true, Bool.and_eq_false_iff, Bool.or_eq_true, Bool.or_eq_false_iff, Int.ofNat_lt, Int.ofNat_le, Bool.not_eq_eq_eq_not, Bool.not_true, Bool.not_false] at h1) <;> try simp (disch := omega) only [go_sem, Nat.reduceEqDiff, Nat.reduceAdd, Nat.reduceSub, Int.reduceAdd, Int.reduceSub, Int.reduceToNat]
  · have hr : evenIn e list = false := by simp [evenIn]; omega
    rw [hr]
    refine den_fin [some (0, none), some (1, none), some (2, none), some (3, none), some (4, none), some (5, none), some (6, none), some (7, none)] (by (try simp (disch := omega) only [go_sem, Nat.reduceEqDiff, Nat.reduceAdd, Nat.reduceSub, Int.reduceAdd, Int.reduceSub, Int.reduceToNat]) <;> omega) _ (by simp only [go_sem]; rfl) (by rfl) (by rfl) ?_
    simp (disch := omega) only [go_sem, Nat.reduceEqDiff, Nat.reduceAdd, Nat.reduceSub, Int.reduceAdd, Int.reduceSub, Int.reduceToNat]
  · have hv : ∀ x ∈ valsOf e.subs list, I64 x := by
      intro x hx
      obtain ⟨n, hn, rfl⟩ := List.mem_map.1 hx
      have := carrN_lt hn
      rw [atI_eq (by omega)]
      exact hw _ (List.getElem_mem _)
    have hr : evenIn e list = evenS (valsOf e.subs list) := by rw [even_eq hv]; simp [evenIn, h1]
    have hsel : ((onN e.subs).filter (keepP e.subs)).map (atI list) = valsOf e.subs list := by rw [sel_eq]; rfl
    rw [hr, evenS]
    generalize hmm : mmGo true 0 0 (valsOf e.subs list) = mm
    rw [← hsel] at hmm
    try simp (disch := omega) only [go_sem, Nat.reduceEqDiff, Nat.reduceAdd, Nat.reduceSub, Int.reduceAdd, Int.reduceSub, Int.reduceToNat]
    refine den_call (by (try simp (disch := omega) only [go_sem, Nat.reduceEqDiff, Nat.reduceAdd, Nat.reduceSub, Int.reduceAdd, Int.reduceSub, Int.reduceToNat]) <;> omega) (spec_OnOf e hl) [some (0, none), some (1, none), some (2, none), some (3, none), some (4, none), some (5, none), some (6, none)] (by simp only [go_sem]; repeat' first | rfl | constructor) (by rfl) (run_den 400 ?_)
    simp (disch := omega) only [go_sem, Nat.reduceEqDiff, Nat.reduceAdd, Nat.reduceSub, Int.reduceAdd, Int.reduceSub, Int.reduceToNat]
    refine den_lp 8 hE (fun s (x : Nat × Bool) => s.at [0, 13, 14, 15, 16, 17, 18, 19, 20, 21, 22, 23, 24, 25, 26, 27, 28, 29, 30, 31, 32, 33, 34, 35, 36, 37, 38, 39] [(7, .sc (.int .i64 (x.1 : Nat))), (6, .sc (.bo x.2))] (s.hp)) (fun (x : Nat × Bool) => x.1 ≤ (onN e.subs).length ∧ (x.2 || ((onN e.subs).drop x.1).any (nsp e.subs)) = someB e.subs) (fun (x : Nat × Bool) => (onN e.subs).length - x.1) (0, false) [some (0, none), some (1, none), some (2, none), some (3, none), some (4, none), some (5, none), some (6, none), some (7, none), some (8, none), some (9, none)] (by (try simp (disch := omega) only [go_sem, Nat.reduceEqDiff, Nat.reduceAdd, Nat.reduceSub, Int.reduceAdd, Int.reduceSub, Int.reduceToNat]) <;> omega) (⟨Nat.zero_le _, rfl⟩) (weak_mk (by rfl) (by rfl) ?_) fun x hx N hN => ?_
    · try simp (disch := omega) only [go_sem, Nat.reduceEqDiff, Nat.reduceAdd, Nat.reduceSub, Int.reduceAdd, Int.reduceSub, Int.reduceToNat]
    · obtain ⟨k, sm⟩ := x
      obtain ⟨hk1, hk2⟩ := hx
      dsimp only at hk1 hk2
      refine run_den 400 ?_
      try simp (disch := omega) only [go_sem, Nat.reduceEqDiff, Nat.reduceAdd, Nat.reduceSub, Int.reduceAdd, Int.reduceSub, Int.reduceToNat]
      split <;> rename_i h <;> (try simp only [beq_true, beq_false, Bool.not_eq_true', Bool.not_eq_false'] at h) <;> simp (disch := omega) only [go_sem, Nat.reduceEqDiff, Nat.reduceAdd, Nat.reduceSub, Int.reduceAdd, Int.reduceSub, Int.reduceToNat, h] <;> (try simp only [decide_eq_true_eq, decide_eq_false_iff_not, beq_iff_eq, beq_eq_false_iff_ne, bne_iff_ne, bne_eq_false_iff_eq, ne_eq, Decidable.not_not, Bool.and_eq_true, Bool.and_eq_false_iff, Bool.or_eq_true, Bool.or_eq_false_iff, Int.ofNat_lt, Int.ofNat_le, Bool.not_eq_eq_eq_not, Bool.not_true, Bool.not_false] at h) <;> try simp (disch := omega) only [go_sem, Nat.reduceEqDiff, Nat.reduceAdd, Nat.reduceSub, Int.reduceAdd, Int.reduceSub, Int.reduceToNat]
      · have hlt := onN_lt h
        cases sm with
        | true =>
          rw [Bool.true_or] at hk2
          refine den_draw1 [0, 1, 2, 3, 4, 5, 6, 7, 8, 9, 10, 11, 12, 13] (by kernel_rfl) (by (try simp (disch := omega) only [go_sem, Nat.reduceEqDiff, Nat.reduceAdd, Nat.reduceSub, Int.reduceAdd, Int.reduceSub, Int.reduceToNat]) <;> omega) (by kernel_rfl) (runD_den 400 ?_)
          simp (disch := omega) only [go_sem, Nat.reduceEqDiff, Nat.reduceAdd, Nat.reduceSub, Int.reduceAdd, Int.reduceSub, Int.reduceToNat]
          refine ⟨by (try simp (disch := omega) only [go_sem, Nat.reduceEqDiff, Nat.reduceAdd, Nat.reduceSub, Int.reduceAdd, Int.reduceSub, Int.reduceToNat]) <;> omega, run_den 400 ?_⟩
          try simp (disch := omega) only [go_sem, Nat.reduceEqDiff, Nat.reduceAdd, Nat.reduceSub, Int.reduceAdd, Int.reduceSub, Int.reduceToNat]
          refine ⟨by (try simp (disch := omega) only [go_sem, Nat.reduceEqDiff, Nat.reduceAdd, Nat.reduceSub, Int.reduceAdd, Int.reduceSub, Int.reduceToNat]) <;> omega, hN _ (k + 1, true) [some (0, none), some (1, none), some (2, none), some (3, none), some (4, none), some (5, none), some (6, none), some (7, none), some (8, none), some (9, none)] (by (try dsimp only); exact ⟨by omega, by rw [Bool.true_or]; exact hk2⟩) (by (try dsimp only); omega) (weak_mk (by rfl) (by rfl) ?_)⟩
          try simp (disch := omega) only [go_sem, Nat.reduceEqDiff, Nat.reduceAdd, Nat.reduceSub, Int.reduceAdd, Int.reduceSub, Int.reduceToNat]
        | false =>
          rw [Bool.false_or, any_step h, nsp, subAtN_eq hlt] at hk2
          refine den_draw1 [0, 1, 2, 3, 4, 5, 6, 7, 8, 9, 10, 11, 12, 13] (by kernel_rfl) (by (try simp (disch := omega) only [go_sem, Nat.reduceEqDiff, Nat.reduceAdd, Nat.reduceSub, Int.reduceAdd, Int.reduceSub, Int.reduceToNat]) <;> omega) (by kernel_rfl) (runD_den 400 ?_)
          simp (disch := omega) only [go_sem, Nat.reduceEqDiff, Nat.reduceAdd, Nat.reduceSub, Int.reduceAdd, Int.reduceSub, Int.reduceToNat]
          try simp (disch := omega) only [go_sem, Nat.reduceEqDiff, Nat.reduceAdd, Nat.reduceSub, Int.reduceAdd, Int.reduceSub, Int.reduceToNat]
          refine ⟨by (try simp (disch := omega) only [go_sem, Nat.reduceEqDiff, Nat.reduceAdd, Nat.reduceSub, Int.reduceAdd, Int.reduceSub, Int.reduceToNat]) <;> omega, run_den 400 ?_⟩
          try simp (disch := omega) only [go_sem, Nat.reduceEqDiff, Nat.reduceAdd, Nat.reduceSub, Int.reduceAdd, Int.reduceSub, Int.reduceToNat]
          refine ⟨by (try simp (disch := omega) only [go_sem, Nat.reduceEqDiff, Nat.reduceAdd, Nat.reduceSub, Int.reduceAdd, Int.reduceSub, Int.reduceToNat]) <;> omega, hN _ (k + 1, !e.subs[(onN e.subs)[k]].spare) [some (0, none), some (1, none), some (2, none), some (3, none), some (4, none), some (5, none), some (6, none), some (7, none), some (8, none), some (9, none)] (by (try dsimp only); exact ⟨by omega, hk2⟩) (by (try dsimp only); omega) (weak_mk (by rfl) (by rfl) ?_)⟩
          try simp (disch := omega) only [go_sem, Nat.reduceEqDiff, Nat.reduceAdd, Nat.reduceSub, Int.reduceAdd, Int.reduceSub, Int.reduceToNat]
      · rw [any_end (by omega), Bool.or_false] at hk2
        subst hk2
        try simp (disch := omega) only [go_sem, Nat.reduceEqDiff, Nat.reduceAdd, Nat.reduceSub, Int.reduceAdd, Int.reduceSub, Int.reduceToNat]
        refine den_lp 8 hE (fun s (y : Nat × Bool × Int × Int) => s.at [0, 7, 12, 13, 14, 15, 16, 17, 18, 19, 20, 21, 22, 23, 24, 25, 26, 27, 28, 29, 30, 31, 32, 33, 34, 35, 36, 37, 38, 39, 40, 41, 42, 43, 44, 45, 46, 47, 48, 49, 50, 51, 52, 53, 54, 55, 56, 57, 58, 59, 60, 61, 62, 63, 64, 65, 66, 67, 68, 69, 70, 71, 72, 73, 74, 75, 76, 77, 78] [(11, .sc (.int .i64 (y.1 : Nat))), (10, .sc (.bo y.2.1)), (8, .sc (.int .i64 y.2.2.1)), (9, .sc (.int .i64 y.2.2.2))] (s.hp)) (fun (y : Nat × Bool × Int × Int) => y.1 ≤ (onN e.subs).length ∧ mmGo y.2.1 y.2.2.1 y.2.2.2 ((((onN e.subs).drop y.1).filter (keepP e.subs)).map (atI list)) = mm) (fun (y : Nat × Bool × Int × Int) => (onN e.subs).length - y.1) (0, true, 0, 0) [some (0, none), some (1, none), some (2, none), some (3, none), some (4, none), some (5, none), some (6, none), some (7, none), some (8, none), some (9, none)] (by (try simp (disch := omega) only [go_sem, Nat.reduceEqDiff, Nat.reduceAdd, Nat.reduceSub, Int.reduceAdd, Int.reduceSub, Int.reduceToNat]) <;> omega) (⟨Nat.zero_le _, hmm⟩) (weak_mk (by rfl) (by rfl) ?_) fun y hy N hN => ?_
        · try simp (disch := omega) only [go_sem, Nat.reduceEqDiff, Nat.reduceAdd, Nat.reduceSub, Int.reduceAdd, Int.reduceSub, Int.reduceToNat]
        · obtain ⟨i, fi, le, mo⟩ := y
          obtain ⟨hi1, hi2⟩ := hy
          dsimp only at hi1 hi2
          refine run_den 400 ?_
          try simp (disch := omega) only [go_sem, Nat.reduceEqDiff, Nat.reduceAdd, Nat.reduceSub, Int.reduceAdd, Int.reduceSub, Int.reduceToNat]
          split <;> rename_i h3 <;> (try simp only [beq_true, beq_false, Bool.not_eq_true', Bool.not_eq_false'] at h3) <;> simp (disch := omega) only [go_sem, Nat.reduceEqDiff, Nat.reduceAdd, Nat.reduceSub, Int.reduceAdd, Int.reduceSub, Int.reduceToNat, h3] <;> (try simp only [decide_eq_true_eq, decide_eq_false_iff_not, beq_iff_eq, beq_eq_false_iff_ne, bne_iff_ne, bne_eq_false_iff_eq, ne_eq, Decidable.not_not, Bool.and_eq_true, Bool.and_eq_false_iff, Bool.or_eq_true, Bool.or_eq_false_iff, Int.ofNat_lt, Int.ofNat_le, Bool.not_eq_eq_eq_not, Bool.not_true, Bool.not_false] at h3) <;> try simp (disch := omega) only [go_sem, Nat.reduceEqDiff, Nat.reduceAdd, Nat.reduceSub, Int.reduceAdd, Int.reduceSub, Int.reduceToNat]
          · have hlt := onN_lt h3
            have hll : (onN e.subs)[i] < list.length := by omega
            rw [filter_step h3, keepP, subAtN_eq hlt] at hi2
            cases hS : someB e.subs with
            | true =>
              cases hP : e.subs[(onN e.subs)[i]].spare with
              | true =>
                rw [hS, hP] at hi2
                simp only [Bool.and_self, Bool.not_true, Bool.false_eq_true, if_false] at hi2
                try simp (disch := omega) only [go_sem, Nat.reduceEqDiff, Nat.reduceAdd, Nat.reduceSub, Int.reduceAdd, Int.reduceSub, Int.reduceToNat, hS]
                refine den_draw1 [0, 1, 2, 3, 4, 5, 6, 7, 8, 9, 10, 11] (by kernel_rfl) (by (try simp (disch := omega) only [go_sem, Nat.reduceEqDiff, Nat.reduceAdd, Nat.reduceSub, Int.reduceAdd, Int.reduceSub, Int.reduceToNat]) <;> omega) (by kernel_rfl) (runD_den 400 ?_)
                simp (disch := omega) only [go_sem, Nat.reduceEqDiff, Nat.reduceAdd, Nat.reduceSub, Int.reduceAdd, Int.reduceSub, Int.reduceToNat]
                try simp (disch := omega) only [go_sem, Nat.reduceEqDiff, Nat.reduceAdd, Nat.reduceSub, Int.reduceAdd, Int.reduceSub, Int.reduceToNat, hP]
                refine ⟨by (try simp (disch := omega) only [go_sem, Nat.reduceEqDiff, Nat.reduceAdd, Nat.reduceSub, Int.reduceAdd, Int.reduceSub, Int.reduceToNat]) <;> omega, run_den 400 ?_⟩
                try simp (disch := omega) only [go_sem, Nat.reduceEqDiff, Nat.reduceAdd, Nat.reduceSub, Int.reduceAdd, Int.reduceSub, Int.reduceToNat, hP]
                refine ⟨by (try simp (disch := omega) only [go_sem, Nat.reduceEqDiff, Nat.reduceAdd, Nat.reduceSub, Int.reduceAdd, Int.reduceSub, Int.reduceToNat]) <;> omega, hN _ (i + 1, fi, le, mo) [some (0, none), some (1, none), some (2, none), some (3, none), some (4, none), some (5, none), some (6, none), some (7, none), some (8, none), some (9, none)] (by (try dsimp only); exact ⟨by omega, hi2⟩) (by (try dsimp only); omega) (weak_mk (by rfl) (by rfl) ?_)⟩
                try simp (disch := omega) only [go_sem, Nat.reduceEqDiff, Nat.reduceAdd, Nat.reduceSub, Int.reduceAdd, Int.reduceSub, Int.reduceToNat, hS]
              | false =>
                rw [hS, hP] at hi2
                simp only [Bool.and_false, Bool.not_false, if_true, List.map_cons, atI_eq hll, mmGo] at hi2
                try simp (disch := omega) only [go_sem, Nat.reduceEqDiff, Nat.reduceAdd, Nat.reduceSub, Int.reduceAdd, Int.reduceSub, Int.reduceToNat, hS]
                refine den_draw1 [0, 1, 2, 3, 4, 5, 6, 7, 8, 9, 10, 11] (by kernel_rfl) (by (try simp (disch := omega) only [go_sem, Nat.reduceEqDiff, Nat.reduceAdd, Nat.reduceSub, Int.reduceAdd, Int.reduceSub, Int.reduceToNat]) <;> omega) (by kernel_rfl) (runD_den 400 ?_)
                simp (disch := omega) only [go_sem, Nat.reduceEqDiff, Nat.reduceAdd, Nat.reduceSub, Int.reduceAdd, Int.reduceSub, Int.reduceToNat]
                try simp (disch := omega) only [go_sem, Nat.reduceEqDiff, Nat.reduceAdd, Nat.reduceSub, Int.reduceAdd, Int.reduceSub, Int.reduceToNat, hP]
                refine ⟨by (try simp (disch := omega) only [go_sem, Nat.reduceEqDiff, Nat.reduceAdd, Nat.reduceSub, Int.reduceAdd, Int.reduceSub, Int.reduceToNat]) <;> omega, run_den 400 ?_⟩
                try simp (disch := omega) only [go_sem, Nat.reduceEqDiff, Nat.reduceAdd, Nat.reduceSub, Int.reduceAdd, Int.reduceSub, Int.reduceToNat, hP]
                cases fi with
                | true =>
                  simp only [Bool.true_or, if_true] at hi2
                  try simp (disch := omega) only [go_sem, Nat.reduceEqDiff, Nat.reduceAdd, Nat.reduceSub, Int.reduceAdd, Int.reduceSub, Int.reduceToNat]
                  refine ⟨by (try simp (disch := omega) only [go_sem, Nat.reduceEqDiff, Nat.reduceAdd, Nat.reduceSub, Int.reduceAdd, Int.reduceSub, Int.reduceToNat]) <;> omega, hN _ (i + 1, false, list[(onN e.subs)[i]], list[(onN e.subs)[i]]) [some (0, none), some (1, none), some (2, none), some (3, none), some (4, none), some (5, none), some (6, none), some (7, none), some (8, none), some (9, none)] (by (try dsimp only); exact ⟨by omega, hi2⟩) (by (try dsimp only); omega) (weak_mk (by rfl) (by rfl) ?_)⟩
                  try simp (disch := omega) only [go_sem, Nat.reduceEqDiff, Nat.reduceAdd, Nat.reduceSub, Int.reduceAdd, Int.reduceSub, Int.reduceToNat, hS]
                | false =>
                  simp only [Bool.false_or, decide_eq_true_eq] at hi2
                  try simp (disch := omega) only [go_sem, Nat.reduceEqDiff, Nat.reduceAdd, Nat.reduceSub, Int.reduceAdd, Int.reduceSub, Int.reduceToNat]
                  split <;> rename_i h6 <;> (try simp only [beq_true, beq_false, Bool.not_eq_true', Bool.not_eq_false'] at h6) <;> simp (disch := omega) only [go_sem, Nat.reduceEqDiff, Nat.reduceAdd, Nat.reduceSub, Int.reduceAdd, Int.reduceSub, Int.reduceToNat, h6] <;> (try simp only [decide_eq_true_eq, decide_eq_false_iff_not, beq_iff_eq, beq_eq_false_iff_ne, bne_iff_ne, bne_eq_false_iff_eq, ne_eq, Decidable.not_not, Bool.and_eq_true, Bool.and_eq_false_iff, Bool.or_eq_true, Bool.or_eq_false_iff, Int.ofNat_lt, Int.ofNat_le, Bool.not_eq_eq_eq_not, Bool.not_true, Bool.not_false] at h6) <;> try simp (disch := omega) only [go_sem, Nat.reduceEqDiff, Nat.reduceAdd, Nat.reduceSub, Int.reduceAdd, Int.reduceSub, Int.reduceToNat]
                  · rw [if_pos h6] at hi2
                    split <;> rename_i h7 <;> (try simp only [beq_true, beq_false, Bool.not_eq_true', Bool.not_eq_false'] at h7) <;> simp (disch := omega) only [go_sem, Nat.reduceEqDiff, Nat.reduceAdd, Nat.reduceSub, Int.reduceAdd, Int.reduceSub, Int.reduceToNat, h7] <;> (try simp only [decide_eq_true_eq, decide_eq_false_iff_not, beq_iff_eq, beq_eq_false_iff_ne, bne_iff_ne, bne_eq_false_iff_eq, ne_eq, Decidable.not_not, Bool.and_eq_true, Bool.and_eq_false_iff, Bool.or_eq_true, Bool.or_eq_false_iff, Int.ofNat_lt, Int.ofNat_le, Bool.not_eq_eq_eq_not, Bool.not_true, Bool.not_false] at h7) <;> try simp (disch := omega) only [go_sem, Nat.reduceEqDiff, Nat.reduceAdd, Nat.reduceSub, Int.reduceAdd, Int.reduceSub, Int.reduceToNat]
                    · rw [if_pos h7] at hi2
                      refine ⟨by (try simp (disch := omega) only [go_sem, Nat.reduceEqDiff, Nat.reduceAdd, Nat.reduceSub, Int.reduceAdd, Int.reduceSub, Int.reduceToNat]) <;> omega, hN _ (i + 1, false, list[(onN e.subs)[i]], list[(onN e.subs)[i]]) [some (0, none), some (1, none), some (2, none), some (3, none), some (4, none), some (5, none), some (6, none), some (7, none), some (8, none), some (9, none)] (by (try dsimp only); exact ⟨by omega, hi2⟩) (by (try dsimp only); omega) (weak_mk (by rfl) (by rfl) ?_)⟩
                      try simp (disch := omega) only [go_sem, Nat.reduceEqDiff, Nat.reduceAdd, Nat.reduceSub, Int.reduceAdd, Int.reduceSub, Int.reduceToNat, hS]
                    · rw [if_neg h7] at hi2
                      refine ⟨by (try simp (disch := omega) only [go_sem, Nat.reduceEqDiff, Nat.reduceAdd, Nat.reduceSub, Int.reduceAdd, Int.reduceSub, Int.reduceToNat]) <;> omega, hN _ (i + 1, false, list[(onN e.subs)[i]], mo) [some (0, none), some (1, none), some (2, none), some (3, none), some (4, none), some (5, none), some (6, none), some (7, none), some (8, none), some (9, none)] (by (try dsimp only); exact ⟨by omega, hi2⟩) (by (try dsimp only); omega) (weak_mk (by rfl) (by rfl) ?_)⟩
                      try simp (disch := omega) only [go_sem, Nat.reduceEqDiff, Nat.reduceAdd, Nat.reduceSub, Int.reduceAdd, Int.reduceSub, Int.reduceToNat, hS]
                  · rw [if_neg h6] at hi2
                    split <;> rename_i h7 <;> (try simp only [beq_true, beq_false, Bool.not_eq_true', Bool.not_eq_false'] at h7) <;> simp (disch := omega) only [go_sem, Nat.reduceEqDiff, Nat.reduceAdd, Nat.reduceSub, Int.reduceAdd, Int.reduceSub, Int.reduceToNat, h7] <;> (try simp only [decide_eq_true_eq, decide_eq_false_iff_not, beq_iff_eq, beq_eq_false_iff_ne, bne_iff_ne, bne_eq_false_iff_eq, ne_eq, Decidable.not_not, Bool.and_eq_true, Bool.and_eq_false_iff, Bool.or_eq_true, Bool.or_eq_false_iff, Int.ofNat_lt, Int.ofNat_le, Bool.not_eq_eq_eq_not, Bool.not_true, Bool.not_false] at h7) <;> try simp (disch := omega) only [go_sem, Nat.reduceEqDiff, Nat.reduceAdd, Nat.reduceSub, Int.reduceAdd, Int.reduceSub, Int.reduceToNat]
                    · rw [if_pos h7] at hi2
                      refine ⟨by (try simp (disch := omega) only [go_sem, Nat.reduceEqDiff, Nat.reduceAdd, Nat.reduceSub, Int.reduceAdd, Int.reduceSub, Int.reduceToNat]) <;> omega, hN _ (i + 1, false, le, list[(onN e.subs)[i]]) [some (0, none), some (1, none), some (2, none), some (3, none), some (4, none), some (5, none), some (6, none), some (7, none), some (8, none), some (9, none)] (by (try dsimp only); exact ⟨by omega, hi2⟩) (by (try dsimp only); omega) (weak_mk (by rfl) (by rfl) ?_)⟩
                      try simp (disch := omega) only [go_sem, Nat.reduceEqDiff, Nat.reduceAdd, Nat.reduceSub, Int.reduceAdd, Int.reduceSub, Int.reduceToNat, hS]
                    · rw [if_neg h7] at hi2
                      refine ⟨by (try simp (disch := omega) only [go_sem, Nat.reduceEqDiff, Nat.reduceAdd, Nat.reduceSub, Int.reduceAdd, Int.reduceSub, Int.reduceToNat]) <;> omega, hN _ (i + 1, false, le, mo) [some (0, none), some (1, none), some (2, none), some (3, none), some (4, none), some (5, none), some (6, none), some (7, none), some (8, none), some (9, none)] (by (try dsimp only); exact ⟨by omega, hi2⟩) (by (try dsimp only); omega) (weak_mk (by rfl) (by rfl) ?_)⟩
                      try simp (disch := omega) only [go_sem, Nat.reduceEqDiff, Nat.reduceAdd, Nat.reduceSub, Int.reduceAdd, Int.reduceSub, Int.reduceToNat, hS]
            | false =>
              rw [hS] at hi2
              simp only [Bool.false_and, Bool.not_false, if_true, List.map_cons, atI_eq hll, mmGo] at hi2
              try simp (disch := omega) only [go_sem, Nat.reduceEqDiff, Nat.reduceAdd, Nat.reduceSub, Int.reduceAdd, Int.reduceSub, Int.reduceToNat, hS]
              refine den_draw1 [0, 1, 2, 3, 4, 5, 6, 7, 8, 9, 10, 11] (by kernel_rfl) (by (try simp (disch := omega) only [go_sem, Nat.reduceEqDiff, Nat.reduceAdd, Nat.reduceSub, Int.reduceAdd, Int.reduceSub, Int.reduceToNat]) <;> omega) (by kernel_rfl) (runD_den 400 ?_)
              simp (disch := omega) only [go_sem, Nat.reduceEqDiff, Nat.reduceAdd, Nat.reduceSub, Int.reduceAdd, Int.reduceSub, Int.reduceToNat]
              try simp (disch := omega) only [go_sem, Nat.reduceEqDiff, Nat.reduceAdd, Nat.reduceSub, Int.reduceAdd, Int.reduceSub, Int.reduceToNat]
              refine ⟨by (try simp (disch := omega) only [go_sem, Nat.reduceEqDiff, Nat.reduceAdd, Nat.reduceSub, Int.reduceAdd, Int.reduceSub, Int.reduceToNat]) <;> omega, run_den 400 ?_⟩
              try simp (disch := omega) only [go_sem, Nat.reduceEqDiff, Nat.reduceAdd, Nat.reduceSub, Int.reduceAdd, Int.reduceSub, Int.reduceToNat]
              cases fi with
              | true =>
                simp only [Bool.true_or, if_true] at hi2
                try simp (disch := omega) only [go_sem, Nat.reduceEqDiff, Nat.reduceAdd, Nat.reduceSub, Int.reduceAdd, Int.reduceSub, Int.reduceToNat]
                refine ⟨by (try simp (disch := omega) only [go_sem, Nat.reduceEqDiff, Nat.reduceAdd, Nat.reduceSub, Int.reduceAdd, Int.reduceSub, Int.reduceToNat]) <;> omega, hN _ (i + 1, false, list[(onN e.subs)[i]], list[(onN e.subs)[i]]) [some (0, none), some (1, none), some (2, none), some (3, none), some (4, none), some (5, none), some (6, none), some (7, none), some (8, none), some (9, none)] (by (try dsimp only); exact ⟨by omega, hi2⟩) (by (try dsimp only); omega) (weak_mk (by rfl) (by rfl) ?_)⟩
                try simp (disch := omega) only [go_sem, Nat.reduceEqDiff, Nat.reduceAdd, Nat.reduceSub, Int.reduceAdd, Int.reduceSub, Int.reduceToNat, hS]
              | false =>
                simp only [Bool.false_or, decide_eq_true_eq] at hi2
                try simp (disch := omega) only [go_sem, Nat.reduceEqDiff, Nat.reduceAdd, Nat.reduceSub, Int.reduceAdd, Int.reduceSub, Int.reduceToNat]
                split <;> rename_i h6 <;> (try simp only [beq_true, beq_false, Bool.not_eq_true', Bool.not_eq_false'] at h6) <;> simp (disch := omega) only [go_sem, Nat.reduceEqDiff, Nat.reduceAdd, Nat.reduceSub, Int.reduceAdd, Int.reduceSub, Int.reduceToNat, h6] <;> (try simp only [decide_eq_true_eq, decide_eq_false_iff_not, beq_iff_eq, beq_eq_false_iff_ne, bne_iff_ne, bne_eq_false_iff_eq, ne_eq, Decidable.not_not, Bool.and_eq_true, Bool.and_eq_false_iff, Bool.or_eq_true, Bool.or_eq_false_iff, Int.ofNat_lt, Int.ofNat_le, Bool.not_eq_eq_eq_not, Bool.not_true, Bool.not_false] at h6) <;> try simp (disch := omega) only [go_sem, Nat.reduceEqDiff, Nat.reduceAdd, Nat.reduceSub, Int.reduceAdd, Int.reduceSub, Int.reduceToNat]
                · rw [if_pos h6] at hi2
                  split <;> rename_i h7 <;> (try simp only [beq_true, beq_false, Bool.not_eq_true', Bool.not_eq_false'] at h7) <;> simp (disch := omega) only [go_sem, Nat.reduceEqDiff, Nat.reduceAdd, Nat.reduceSub, Int.reduceAdd, Int.reduceSub, Int.reduceToNat, h7] <;> (try simp only [decide_eq_true_eq, decide_eq_false_iff_not, beq_iff_eq, beq_eq_false_iff_ne, bne_iff_ne, bne_eq_false_iff_eq, ne_eq, Decidable.not_not, Bool.and_eq_true, Bool.and_eq_false_iff, Bool.or_eq_true, Bool.or_eq_false_iff, Int.ofNat_lt, Int.ofNat_le, Bool.not_eq_eq_eq_not, Bool.not_true, Bool.not_false] at h7) <;> try simp (disch := omega) only [go_sem, Nat.reduceEqDiff, Nat.reduceAdd, Nat.reduceSub, Int.reduceAdd, Int.reduceSub, Int.reduceToNat]
                  · rw [if_pos h7] at hi2
                    refine ⟨by (try simp (disch := omega) only [go_sem, Nat.reduceEqDiff, Nat.reduceAdd, Nat.reduceSub, Int.reduceAdd, Int.reduceSub, Int.reduceToNat]) <;> omega, hN _ (i + 1, false, list[(onN e.subs)[i]], list[(onN e.subs)[i]]) [some (0, none), some (1, none), some (2, none), some (3, none), some (4, none), some (5, none), some (6, none), some (7, none), some (8, none), some (9, none)] (by (try dsimp only); exact ⟨by omega, hi2⟩) (by (try dsimp only); omega) (weak_mk (by rfl) (by rfl) ?_)⟩
                    try simp (disch := omega) only [go_sem, Nat.reduceEqDiff, Nat.reduceAdd, Nat.reduceSub, Int.reduceAdd, Int.reduceSub, Int.reduceToNat, hS]
                  · rw [if_neg h7] at hi2
                    refine ⟨by (try simp (disch := omega) only [go_sem, Nat.reduceEqDiff, Nat.reduceAdd, Nat.reduceSub, Int.reduceAdd, Int.reduceSub, Int.reduceToNat]) <;> omega, hN _ (i + 1, false, list[(onN e.subs)[i]], mo) [some (0, none), some (1, none), some (2, none), some (3, none), some (4, none), some (5, none), some (6, none), some (7, none), some (8, none), some (9, none)] (by (try dsimp only); exact ⟨by omega, hi2⟩) (by (try dsimp only); omega) (weak_mk (by rfl) (by rfl) ?_)⟩
                    try simp (disch := omega) only [go_sem, Nat.reduceEqDiff, Nat.reduceAdd, Nat.reduceSub, Int.reduceAdd, Int.reduceSub, Int.reduceToNat, hS]
                · rw [if_neg h6] at hi2
                  split <;> rename_i h7 <;> (try simp only [beq_true, beq_false, Bool.not_eq_true', Bool.not_eq_false'] at h7) <;> simp (disch := omega) only [go_sem, Nat.reduceEqDiff, Nat.reduceAdd, Nat.reduceSub, Int.reduceAdd, Int.reduceSub, Int.reduceToNat, h7] <;> (try simp only [decide_eq_true_eq, decide_eq_false_iff_not, beq_iff_eq, beq_eq_false_iff_ne, bne_iff_ne, bne_eq_false_iff_eq, ne_eq, Decidable.not_not, Bool.and_eq_true, Bool.and_eq_false_iff, Bool.or_eq_true, Bool.or_eq_false_iff, Int.ofNat_lt, Int.ofNat_le, Bool.not_eq_eq_eq_not, Bool.not_true, Bool.not_false] at h7) <;> try simp (disch := omega) only [go_sem, Nat.reduceEqDiff, Nat.reduceAdd, Nat.reduceSub, Int.reduceAdd, Int.reduceSub, Int.reduceToNat]
                  · rw [if_pos h7] at hi2
                    refine ⟨by (try simp (disch := omega) only [go_sem, Nat.reduceEqDiff, Nat.reduceAdd, Nat.reduceSub, Int.reduceAdd, Int.reduceSub, Int.reduceToNat]) <;> omega, hN _ (i + 1, false, le, list[(onN e.subs)[i]]) [some (0, none), some (1, none), some (2, none), some (3, none), some (4, none), some (5, none), some (6, none), some (7, none), some (8, none), some (9, none)] (by (try dsimp only); exact ⟨by omega, hi2⟩) (by (try dsimp only); omega) (weak_mk (by rfl) (by rfl) ?_)⟩
                    try simp (disch := omega) only [go_sem, Nat.reduceEqDiff, Nat.reduceAdd, Nat.reduceSub, Int.reduceAdd, Int.reduceSub, Int.reduceToNat, hS]
                  · rw [if_neg h7] at hi2
                    refine ⟨by (try simp (disch := omega) only [go_sem, Nat.reduceEqDiff, Nat.reduceAdd, Nat.reduceSub, Int.reduceAdd, Int.reduceSub, Int.reduceToNat]) <;> omega, hN _ (i + 1, false, le, mo) [some (0, none), some (1, none), some (2, none), some (3, none), some (4, none), some (5, none), some (6, none), some (7, none), some (8, none), some (9, none)] (by (try dsimp only); exact ⟨by omega, hi2⟩) (by (try dsimp only); omega) (weak_mk (by rfl) (by rfl) ?_)⟩
                    try simp (disch := omega) only [go_sem, Nat.reduceEqDiff, Nat.reduceAdd, Nat.reduceSub, Int.reduceAdd, Int.reduceSub, Int.reduceToNat, hS]
          · rw [List.drop_eq_nil_of_le (by omega), List.filter_nil, List.map_nil, mmGo] at hi2
            subst hi2
            try simp (disch := omega) only [go_sem, Nat.reduceEqDiff, Nat.reduceAdd, Nat.reduceSub, Int.reduceAdd, Int.reduceSub, Int.reduceToNat]
            split <;> rename_i h4 <;> (try simp only [beq_true, beq_false, Bool.not_eq_true', Bool.not_eq_false'] at h4) <;> simp (disch := omega) only [go_sem, Nat.reduceEqDiff, Nat.reduceAdd, Nat.reduceSub, Int.reduceAdd, Int.reduceSub, Int.reduceToNat, h4] <;> (try simp only [decide_eq_true_eq, decide_eq_false_iff_not, beq_iff_eq, beq_eq_false_iff_ne, bne_iff_ne, bne_eq_false_iff_eq, ne_eq, Decidable.not_not, Bool.and_eq_true, Bool.and_eq_false_iff, Bool.or_eq_true, Bool.or_eq_false_iff, Int.ofNat_lt, Int.ofNat_le, Bool.not_eq_eq_eq_not, Bool.not_true, Bool.not_false] at h4) <;> try simp (disch := omega) only [go_sem, Nat.reduceEqDiff, Nat.reduceAdd, Nat.reduceSub, Int.reduceAdd, Int.reduceSub, Int.reduceToNat]
            · refine den_fin [some (0, none), some (1, none), some (2, none), some (3, none), some (4, none), some (5, none), some (6, none), some (7, none)] (by (try simp (disch := omega) only [go_sem, Nat.reduceEqDiff, Nat.reduceAdd, Nat.reduceSub, Int.reduceAdd, Int.reduceSub, Int.reduceToNat]) <;> omega) _ (by simp only [go_sem]; rfl) (by rfl) (by rfl) ?_
              simp (disch := omega) only [go_sem, Nat.reduceEqDiff, Nat.reduceAdd, Nat.reduceSub, Int.reduceAdd, Int.reduceSub, Int.reduceToNat]
              try simp [h4]
              try omega
            · refine den_fin [some (0, none), some (1, none), some (2, none), some (3, none), some (4, none), some (5, none), some (6, none), some (7, none)] (by (try simp (disch := omega) only [go_sem, Nat.reduceEqDiff, Nat.reduceAdd, Nat.reduceSub, Int.reduceAdd, Int.reduceSub, Int.reduceToNat]) <;> omega) _ (by simp only [go_sem]; rfl) (by rfl) (by rfl) ?_
              simp (disch := omega) only [go_sem, Nat.reduceEqDiff, Nat.reduceAdd, Nat.reduceSub, Int.reduceAdd, Int.reduceSub, Int.reduceToNat]
              try simp [h4]
end Go.Proofs.Ytoghbjbfldlfpaa
