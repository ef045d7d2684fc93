/-
  The laws' own functions: contracts. Written by vharn.py.
-/
import Derived.Test.YtoghbjbfldlfpaaGreatVHa
namespace Go.Proofs.YtoghbjbfldlfpaaGreat
open Go.RowKit
set_option linter.unusedVariables false
set_option linter.unusedSimpArgs false
set_option maxRecDepth 20000

theorem nn_app {a b : List Int} (h : ∀ n ∈ a, 0 ≤ n) (k : ∀ n ∈ b, 0 ≤ n) : ∀ n ∈ a ++ b, 0 ≤ n := fun n hn => (List.mem_append.1 hn).elim (h n) (k n)
def szLInt (l : List Int) : List Int := [(l.length : Int)]
theorem szLInt_nn (l : List Int) : ∀ n ∈ szLInt l, 0 ≤ n := by
  intro n hn
  simp only [szLInt, List.mem_cons, List.mem_map, List.not_mem_nil, or_false] at hn
  omega
theorem laws_toIntS (l : List Int) (hl : l.length ≤ 1048576) : CallA Tryz.prog 21 [.sc (.sl 0 0 l.length)] [some ⟨l.map intC, 1, 3, false, true⟩] (.sc (.sl 1 0 l.length)) [some ⟨l.map intC, 1, 3, false, true⟩, some ⟨l.map intC, 1, 3, true, true⟩] := by
  refine callA_of Tryz.func21 (by kernel_rfl) rfl fun E hE => run_den 400 ?_
  simp (disch := omega) only [Tryz.ntmps21, Tryz.results21, go_sem, Nat.reduceEqDiff, Nat.reduceAdd, Nat.reduceSub, Int.reduceAdd, Int.reduceSub, Int.reduceToNat]
  refine den_lp 1 hE (fun s (k : Nat) => s.at [5, 6, 7, 8, 9, 10, 11, 12, 13, 14, 15, 16, 17, 18, 19, 20] [(4, .sc (.int .i64 (k : Nat)))] ([some ⟨l.map intC, 1, 3, false, true⟩, some ⟨(l.take k).map intC ++ List.replicate (l.length - k) [.int .i64 0], 1, 3, true, true⟩])) (fun (k : Nat) => k ≤ l.length) (fun (k : Nat) => l.length - k) 0 [some (0, none), some (1, none)] (by (try simp (disch := omega) only [go_sem, Nat.reduceEqDiff, Nat.reduceAdd, Nat.reduceSub, Int.reduceAdd, Int.reduceSub, Int.reduceToNat]) <;> omega) (Nat.zero_le _) (weak_mk (by rfl) (by rfl) ?_) fun k hk N hN => ?_
  · try simp (disch := omega) only [go_sem, Nat.reduceEqDiff, Nat.reduceAdd, Nat.reduceSub, Int.reduceAdd, Int.reduceSub, Int.reduceToNat]
    try simp
  · refine run_den 400 ?_
    try simp (disch := omega) only [go_sem, Nat.reduceEqDiff, Nat.reduceAdd, Nat.reduceSub, Int.reduceAdd, Int.reduceSub, Int.reduceToNat]
    split <;> rename_i h <;> (try simp only [beq_true, beq_false, Bool.not_eq_true', Bool.not_eq_false'] at h) <;> simp (disch := omega) only [go_sem, Nat.reduceEqDiff, Nat.reduceAdd, Nat.reduceSub, Int.reduceAdd, Int.reduceSub, Int.reduceToNat, h] <;> (try simp only [decide_eq_true_eq, decide_eq_false_iff_not, beq_iff_eq, beq_eq_false_iff_ne, bne_iff_ne, bne_eq_false_iff_eq, ne_eq, Decidable.not_not, Bool.and_eq_true, Bool.and_eq_false_iff, Bool.or_eq_true, Bool.or_eq_false_iff, Int.ofNat_lt, Int.ofNat_le, Bool.not_eq_eq_eq_not, Bool.not_true, Bool.not_false] at h) <;> try simp (disch := omega) only [go_sem, Nat.reduceEqDiff, Nat.reduceAdd, Nat.reduceSub, Int.reduceAdd, Int.reduceSub, Int.reduceToNat]
    · try simp (disch := omega) only [go_sem, Nat.reduceEqDiff, Nat.reduceAdd, Nat.reduceSub, Int.reduceAdd, Int.reduceSub, Int.reduceToNat, map_rep_get h, map_rep_len]
      refine ⟨by (try simp (disch := omega) only [go_sem, Nat.reduceEqDiff, Nat.reduceAdd, Nat.reduceSub, Int.reduceAdd, Int.reduceSub, Int.reduceToNat, map_rep_len]) <;> omega, hN _ (k + 1) [some (0, none), some (1, none)] (by (try dsimp only); exact h) (by (try dsimp only); omega) (weak_mk (by rfl) (by rfl) ?_)⟩
      try simp (disch := omega) only [go_sem, Nat.reduceEqDiff, Nat.reduceAdd, Nat.reduceSub, Int.reduceAdd, Int.reduceSub, Int.reduceToNat]
      first | exact map_set_app h rfl | (rw [map_set_app h rfl])
    · have hk : k = l.length := by omega
      subst hk
      refine den_fin [some (0, none), some (1, none)] (by (try simp (disch := omega) only [go_sem, Nat.reduceEqDiff, Nat.reduceAdd, Nat.reduceSub, Int.reduceAdd, Int.reduceSub, Int.reduceToNat]) <;> omega) _ (by simp only [go_sem]; rfl) (by rfl) (by rfl) ?_
      simp (disch := omega) only [go_sem, Nat.reduceEqDiff, Nat.reduceAdd, Nat.reduceSub, Int.reduceAdd, Int.reduceSub, Int.reduceToNat]
      rw [map_rep_done]
theorem laws_eqIntS (l : List Int) (hl : l.length ≤ 4611686018427387904) : CallA Tryz.prog 30 [.sc (.sl 0 0 l.length), .sc (.sl 1 0 l.length)] [some ⟨l.map intC, 1, 3, false, true⟩, some ⟨l.map intC, 1, 3, false, true⟩] (.sc (.bo true)) [some ⟨l.map intC, 1, 3, false, true⟩, some ⟨l.map intC, 1, 3, false, true⟩] := by
  refine callA_of Tryz.func30 (by kernel_rfl) rfl fun E hE => run_den 400 ?_
  simp (disch := omega) only [Tryz.ntmps30, Tryz.results30, go_sem, Nat.reduceEqDiff, Nat.reduceAdd, Nat.reduceSub, Int.reduceAdd, Int.reduceSub, Int.reduceToNat]
  refine den_lp 2 hE (fun s (k : Nat) => s.at [4, 6, 7, 8, 9, 10, 11, 12, 13, 14, 15, 16, 17, 18, 19, 20, 21, 22, 23, 24, 25] [(5, .sc (.int .i64 (k : Nat)))] (s.hp)) (fun (k : Nat) => k ≤ l.length) (fun (k : Nat) => l.length - k) 0 [some (0, none), some (1, none)] (by (try simp (disch := omega) only [go_sem, Nat.reduceEqDiff, Nat.reduceAdd, Nat.reduceSub, Int.reduceAdd, Int.reduceSub, Int.reduceToNat]) <;> omega) (Nat.zero_le _) (weak_mk (by rfl) (by rfl) ?_) fun k hk N hN => ?_
  · try simp (disch := omega) only [go_sem, Nat.reduceEqDiff, Nat.reduceAdd, Nat.reduceSub, Int.reduceAdd, Int.reduceSub, Int.reduceToNat]
  · refine run_den 400 ?_
    try simp (disch := omega) only [go_sem, Nat.reduceEqDiff, Nat.reduceAdd, Nat.reduceSub, Int.reduceAdd, Int.reduceSub, Int.reduceToNat]
    split <;> rename_i h <;> (try simp only [beq_true, beq_false, Bool.not_eq_true', Bool.not_eq_false'] at h) <;> simp (disch := omega) only [go_sem, Nat.reduceEqDiff, Nat.reduceAdd, Nat.reduceSub, Int.reduceAdd, Int.reduceSub, Int.reduceToNat, h] <;> (try simp only [decide_eq_true_eq, decide_eq_false_iff_not, beq_iff_eq, beq_eq_false_iff_ne, bne_iff_ne, bne_eq_false_iff_eq, ne_eq, Decidable.not_not, Bool.and_eq_true, Bool.and_eq_false_iff, Bool.or_eq_true, Bool.or_eq_false_iff, Int.ofNat_lt, Int.ofNat_le, Bool.not_eq_eq_eq_not, Bool.not_true, Bool.not_false] at h) <;> try simp (disch := omega) only [go_sem, Nat.reduceEqDiff, Nat.reduceAdd, Nat.reduceSub, Int.reduceAdd, Int.reduceSub, Int.reduceToNat]
    · refine den_draw1 [0, 1, 2, 3, 4, 5, 6, 7, 8] (by kernel_rfl) (trivial) (by kernel_rfl) (runD_den 400 ?_)
      simp (disch := omega) only [go_sem, Nat.reduceEqDiff, Nat.reduceAdd, Nat.reduceSub, Int.reduceAdd, Int.reduceSub, Int.reduceToNat]
      try simp (disch := omega) only [go_sem, Nat.reduceEqDiff, Nat.reduceAdd, Nat.reduceSub, Int.reduceAdd, Int.reduceSub, Int.reduceToNat, strs_get h]
      refine ⟨by (try simp (disch := omega) only [go_sem, Nat.reduceEqDiff, Nat.reduceAdd, Nat.reduceSub, Int.reduceAdd, Int.reduceSub, Int.reduceToNat]) <;> omega, run_den 400 ?_⟩
      try simp (disch := omega) only [go_sem, Nat.reduceEqDiff, Nat.reduceAdd, Nat.reduceSub, Int.reduceAdd, Int.reduceSub, Int.reduceToNat]
      refine ⟨by (try simp (disch := omega) only [go_sem, Nat.reduceEqDiff, Nat.reduceAdd, Nat.reduceSub, Int.reduceAdd, Int.reduceSub, Int.reduceToNat]) <;> omega, hN _ (k + 1) [some (0, none), some (1, none)] (by (try dsimp only); exact h) (by (try dsimp only); omega) (weak_mk (by rfl) (by rfl) ?_)⟩
      try simp (disch := omega) only [go_sem, Nat.reduceEqDiff, Nat.reduceAdd, Nat.reduceSub, Int.reduceAdd, Int.reduceSub, Int.reduceToNat]
    · refine den_fin [some (0, none), some (1, none)] (by (try simp (disch := omega) only [go_sem, Nat.reduceEqDiff, Nat.reduceAdd, Nat.reduceSub, Int.reduceAdd, Int.reduceSub, Int.reduceToNat]) <;> omega) _ (by simp only [go_sem]; rfl) (by rfl) (by rfl) ?_
      simp (disch := omega) only [go_sem, Nat.reduceEqDiff, Nat.reduceAdd, Nat.reduceSub, Int.reduceAdd, Int.reduceSub, Int.reduceToNat]
theorem laws_szIntS (l : List Int) (m : Int) (hl : l.length ≤ 9223372036854775807) (h0 : 0 ≤ m) (h : m ≤ 1048576) : CallA Tryz.prog 12 [.sc (.sl 0 0 l.length), .sc (.int .i64 m)] [some ⟨l.map intC, 1, 3, false, true⟩] (.sc (.int .i64 (szGo m (szLInt l)))) [some ⟨l.map intC, 1, 3, false, true⟩] := by
  obtain ⟨R, hR⟩ : ∃ R, R = szGo m (szLInt l) := ⟨_, rfl⟩
  rw [← hR]
  simp only [szGo, szLInt] at hR
  refine callA_of Tryz.func12 (by kernel_rfl) rfl fun E hE => run_den 400 ?_
  simp (disch := omega) only [Tryz.ntmps12, Tryz.results12, go_sem, Nat.reduceEqDiff, Nat.reduceAdd, Nat.reduceSub, Int.reduceAdd, Int.reduceSub, Int.reduceToNat]
  split <;> rename_i h1 <;> (try simp only [beq_true, beq_false, Bool.not_eq_true', Bool.not_eq_false'] at h1) <;> simp (disch := omega) only [go_sem, Nat.reduceEqDiff, Nat.reduceAdd, Nat.reduceSub, Int.reduceAdd, Int.reduceSub, Int.reduceToNat, h1] <;> (try simp only [decide_eq_true_eq, decide_eq_false_iff_not, beq_iff_eq, beq_eq_false_iff_ne, bne_iff_ne, bne_eq_false_iff_eq, ne_eq, Decidable.not_not, Bool.and_eq_true, Bool.and_eq_false_iff, Bool.or_eq_true, Bool.or_eq_false_iff, Int.ofNat_lt, Int.ofNat_le, Bool.not_eq_eq_eq_not, Bool.not_true, Bool.not_false] at h1) <;> try simp (disch := omega) only [go_sem, Nat.reduceEqDiff, Nat.reduceAdd, Nat.reduceSub, Int.reduceAdd, Int.reduceSub, Int.reduceToNat]
  · refine den_fin [some (0, none)] (by (try simp (disch := omega) only [go_sem, Nat.reduceEqDiff, Nat.reduceAdd, Nat.reduceSub, Int.reduceAdd, Int.reduceSub, Int.reduceToNat]) <;> omega) _ (by simp only [go_sem]; rfl) (by rfl) (by rfl) ?_
    simp (disch := omega) only [go_sem, Nat.reduceEqDiff, Nat.reduceAdd, Nat.reduceSub, Int.reduceAdd, Int.reduceSub, Int.reduceToNat]
    omega
  · refine den_fin [some (0, none)] (by (try simp (disch := omega) only [go_sem, Nat.reduceEqDiff, Nat.reduceAdd, Nat.reduceSub, Int.reduceAdd, Int.reduceSub, Int.reduceToNat]) <;> omega) _ (by simp only [go_sem]; rfl) (by rfl) (by rfl) ?_
    simp (disch := omega) only [go_sem, Nat.reduceEqDiff, Nat.reduceAdd, Nat.reduceSub, Int.reduceAdd, Int.reduceSub, Int.reduceToNat]
    omega
def szLString (l : List (List UInt8)) : List Int := [(l.length : Int)]
theorem szLString_nn (l : List (List UInt8)) : ∀ n ∈ szLString l, 0 ≤ n := by
  intro n hn
  simp only [szLString, List.mem_cons, List.mem_map, List.not_mem_nil, or_false] at hn
  omega
def szLRoad (l : List RoadD) : List Int := [(l.length : Int)]
theorem szLRoad_nn (l : List RoadD) : ∀ n ∈ szLRoad l, 0 ≤ n := by
  intro n hn
  simp only [szLRoad, List.mem_cons, List.mem_map, List.not_mem_nil, or_false] at hn
  omega
def szLAddr (l : List AddrD) : List Int := [(l.length : Int)]
theorem szLAddr_nn (l : List AddrD) : ∀ n ∈ szLAddr l, 0 ≤ n := by
  intro n hn
  simp only [szLAddr, List.mem_cons, List.mem_map, List.not_mem_nil, or_false] at hn
  omega
theorem laws_toAddrS (l : List AddrD) (hl : l.length ≤ 1048576) : CallA Tryz.prog 54 [.sc (.sl 0 0 l.length)] [some ⟨l.map AddrD.cs, 4, 144, false, true⟩] (.sc (.sl 1 0 l.length)) [some ⟨l.map AddrD.cs, 4, 144, false, true⟩, some ⟨l.map AddrD.cs, 4, 133, true, true⟩] := by
  refine callA_of Tryz.func54 (by kernel_rfl) rfl fun E hE => run_den 400 ?_
  simp (disch := omega) only [Tryz.ntmps54, Tryz.results54, go_sem, Nat.reduceEqDiff, Nat.reduceAdd, Nat.reduceSub, Int.reduceAdd, Int.reduceSub, Int.reduceToNat]
  refine den_lp 1 hE (fun s (k : Nat) => s.at [5, 6, 7, 8, 9, 10, 11, 12, 13, 14, 15, 16, 17, 18, 19, 20, 21] [(4, .sc (.int .i64 (k : Nat)))] ([some ⟨l.map AddrD.cs, 4, 144, false, true⟩, some ⟨(l.take k).map AddrD.cs ++ List.replicate (l.length - k) [.int .i64 0, .int .i64 0, .bo false, .bo false], 4, 133, true, true⟩])) (fun (k : Nat) => k ≤ l.length) (fun (k : Nat) => l.length - k) 0 [some (0, none), some (1, none)] (by (try simp (disch := omega) only [go_sem, Nat.reduceEqDiff, Nat.reduceAdd, Nat.reduceSub, Int.reduceAdd, Int.reduceSub, Int.reduceToNat]) <;> omega) (Nat.zero_le _) (weak_mk (by rfl) (by rfl) ?_) fun k hk N hN => ?_
  · try simp (disch := omega) only [go_sem, Nat.reduceEqDiff, Nat.reduceAdd, Nat.reduceSub, Int.reduceAdd, Int.reduceSub, Int.reduceToNat]
    try simp
  · refine run_den 400 ?_
    try simp (disch := omega) only [go_sem, Nat.reduceEqDiff, Nat.reduceAdd, Nat.reduceSub, Int.reduceAdd, Int.reduceSub, Int.reduceToNat]
    split <;> rename_i h <;> (try simp only [beq_true, beq_false, Bool.not_eq_true', Bool.not_eq_false'] at h) <;> simp (disch := omega) only [go_sem, Nat.reduceEqDiff, Nat.reduceAdd, Nat.reduceSub, Int.reduceAdd, Int.reduceSub, Int.reduceToNat, h] <;> (try simp only [decide_eq_true_eq, decide_eq_false_iff_not, beq_iff_eq, beq_eq_false_iff_ne, bne_iff_ne, bne_eq_false_iff_eq, ne_eq, Decidable.not_not, Bool.and_eq_true, Bool.and_eq_false_iff, Bool.or_eq_true, Bool.or_eq_false_iff, Int.ofNat_lt, Int.ofNat_le, Bool.not_eq_eq_eq_not, Bool.not_true, Bool.not_false] at h) <;> try simp (disch := omega) only [go_sem, Nat.reduceEqDiff, Nat.reduceAdd, Nat.reduceSub, Int.reduceAdd, Int.reduceSub, Int.reduceToNat]
    · try simp (disch := omega) only [go_sem, Nat.reduceEqDiff, Nat.reduceAdd, Nat.reduceSub, Int.reduceAdd, Int.reduceSub, Int.reduceToNat, map_rep_get h, map_rep_len]
      refine den_call (by (try simp (disch := omega) only [go_sem, Nat.reduceEqDiff, Nat.reduceAdd, Nat.reduceSub, Int.reduceAdd, Int.reduceSub, Int.reduceToNat]) <;> omega) (laws_toAddr l[k]) [] (by simp only [go_sem]; repeat' first | rfl | constructor) (by rfl) (run_den 400 ?_)
      simp (disch := omega) only [go_sem, Nat.reduceEqDiff, Nat.reduceAdd, Nat.reduceSub, Int.reduceAdd, Int.reduceSub, Int.reduceToNat]
      try simp (disch := omega) only [go_sem, Nat.reduceEqDiff, Nat.reduceAdd, Nat.reduceSub, Int.reduceAdd, Int.reduceSub, Int.reduceToNat, map_rep_get h, map_rep_len]
      refine ⟨by (try simp (disch := omega) only [go_sem, Nat.reduceEqDiff, Nat.reduceAdd, Nat.reduceSub, Int.reduceAdd, Int.reduceSub, Int.reduceToNat, map_rep_len]) <;> omega, hN _ (k + 1) [some (0, none), some (1, none)] (by (try dsimp only); exact h) (by (try dsimp only); omega) (weak_mk (by rfl) (by rfl) ?_)⟩
      try simp (disch := omega) only [go_sem, Nat.reduceEqDiff, Nat.reduceAdd, Nat.reduceSub, Int.reduceAdd, Int.reduceSub, Int.reduceToNat]
      first | exact map_set_app h rfl | (rw [map_set_app h rfl])
    · have hk : k = l.length := by omega
      subst hk
      refine den_fin [some (0, none), some (1, none)] (by (try simp (disch := omega) only [go_sem, Nat.reduceEqDiff, Nat.reduceAdd, Nat.reduceSub, Int.reduceAdd, Int.reduceSub, Int.reduceToNat]) <;> omega) _ (by simp only [go_sem]; rfl) (by rfl) (by rfl) ?_
      simp (disch := omega) only [go_sem, Nat.reduceEqDiff, Nat.reduceAdd, Nat.reduceSub, Int.reduceAdd, Int.reduceSub, Int.reduceToNat]
      rw [map_rep_done]
theorem laws_eqAddrS (l : List AddrD) (hl : l.length ≤ 4611686018427387904) : CallA Tryz.prog 79 [.sc (.sl 0 0 l.length), .sc (.sl 1 0 l.length)] [some ⟨l.map AddrD.cs, 4, 133, false, true⟩, some ⟨l.map AddrD.cs, 4, 133, false, true⟩] (.sc (.bo true)) [some ⟨l.map AddrD.cs, 4, 133, false, true⟩, some ⟨l.map AddrD.cs, 4, 133, false, true⟩] := by
  refine callA_of Tryz.func79 (by kernel_rfl) rfl fun E hE => run_den 400 ?_
  simp (disch := omega) only [Tryz.ntmps79, Tryz.results79, go_sem, Nat.reduceEqDiff, Nat.reduceAdd, Nat.reduceSub, Int.reduceAdd, Int.reduceSub, Int.reduceToNat]
  refine den_lp 2 hE (fun s (k : Nat) => s.at [4, 6, 7, 8, 9, 10, 11, 12, 13, 14, 15, 16, 17, 18, 19, 20, 21, 22, 23, 24, 25, 26] [(5, .sc (.int .i64 (k : Nat)))] (s.hp)) (fun (k : Nat) => k ≤ l.length) (fun (k : Nat) => l.length - k) 0 [some (0, none), some (1, none)] (by (try simp (disch := omega) only [go_sem, Nat.reduceEqDiff, Nat.reduceAdd, Nat.reduceSub, Int.reduceAdd, Int.reduceSub, Int.reduceToNat]) <;> omega) (Nat.zero_le _) (weak_mk (by rfl) (by rfl) ?_) fun k hk N hN => ?_
  · try simp (disch := omega) only [go_sem, Nat.reduceEqDiff, Nat.reduceAdd, Nat.reduceSub, Int.reduceAdd, Int.reduceSub, Int.reduceToNat]
  · refine run_den 400 ?_
    try simp (disch := omega) only [go_sem, Nat.reduceEqDiff, Nat.reduceAdd, Nat.reduceSub, Int.reduceAdd, Int.reduceSub, Int.reduceToNat]
    split <;> rename_i h <;> (try simp only [beq_true, beq_false, Bool.not_eq_true', Bool.not_eq_false'] at h) <;> simp (disch := omega) only [go_sem, Nat.reduceEqDiff, Nat.reduceAdd, Nat.reduceSub, Int.reduceAdd, Int.reduceSub, Int.reduceToNat, h] <;> (try simp only [decide_eq_true_eq, decide_eq_false_iff_not, beq_iff_eq, beq_eq_false_iff_ne, bne_iff_ne, bne_eq_false_iff_eq, ne_eq, Decidable.not_not, Bool.and_eq_true, Bool.and_eq_false_iff, Bool.or_eq_true, Bool.or_eq_false_iff, Int.ofNat_lt, Int.ofNat_le, Bool.not_eq_eq_eq_not, Bool.not_true, Bool.not_false] at h) <;> try simp (disch := omega) only [go_sem, Nat.reduceEqDiff, Nat.reduceAdd, Nat.reduceSub, Int.reduceAdd, Int.reduceSub, Int.reduceToNat]
    · refine den_draw1 [0, 1, 2, 3, 4, 5, 6, 7, 8, 9] (by kernel_rfl) (trivial) (by kernel_rfl) (runD_den 400 ?_)
      simp (disch := omega) only [go_sem, Nat.reduceEqDiff, Nat.reduceAdd, Nat.reduceSub, Int.reduceAdd, Int.reduceSub, Int.reduceToNat]
      refine den_callD (by (try simp (disch := omega) only [go_sem, Nat.reduceEqDiff, Nat.reduceAdd, Nat.reduceSub, Int.reduceAdd, Int.reduceSub, Int.reduceToNat]) <;> omega) (laws_eqAddr l[k]) [] (by simp only [go_sem]; repeat' first | rfl | constructor) (by rfl) (by rfl) (runD_den 400 ?_)
      simp (disch := omega) only [go_sem, Nat.reduceEqDiff, Nat.reduceAdd, Nat.reduceSub, Int.reduceAdd, Int.reduceSub, Int.reduceToNat]
      refine ⟨by (try simp (disch := omega) only [go_sem, Nat.reduceEqDiff, Nat.reduceAdd, Nat.reduceSub, Int.reduceAdd, Int.reduceSub, Int.reduceToNat]) <;> omega, run_den 400 ?_⟩
      try simp (disch := omega) only [go_sem, Nat.reduceEqDiff, Nat.reduceAdd, Nat.reduceSub, Int.reduceAdd, Int.reduceSub, Int.reduceToNat]
      refine ⟨by (try simp (disch := omega) only [go_sem, Nat.reduceEqDiff, Nat.reduceAdd, Nat.reduceSub, Int.reduceAdd, Int.reduceSub, Int.reduceToNat]) <;> omega, hN _ (k + 1) [some (0, none), some (1, none)] (by (try dsimp only); exact h) (by (try dsimp only); omega) (weak_mk (by rfl) (by rfl) ?_)⟩
      try simp (disch := omega) only [go_sem, Nat.reduceEqDiff, Nat.reduceAdd, Nat.reduceSub, Int.reduceAdd, Int.reduceSub, Int.reduceToNat]
    · refine den_fin [some (0, none), some (1, none)] (by (try simp (disch := omega) only [go_sem, Nat.reduceEqDiff, Nat.reduceAdd, Nat.reduceSub, Int.reduceAdd, Int.reduceSub, Int.reduceToNat]) <;> omega) _ (by simp only [go_sem]; rfl) (by rfl) (by rfl) ?_
      simp (disch := omega) only [go_sem, Nat.reduceEqDiff, Nat.reduceAdd, Nat.reduceSub, Int.reduceAdd, Int.reduceSub, Int.reduceToNat]
theorem laws_szAddrS (l : List AddrD) (m : Int) (hl : l.length ≤ 9223372036854775807) (h0 : 0 ≤ m) (h : m ≤ 1048576) : CallA Tryz.prog 31 [.sc (.sl 0 0 l.length), .sc (.int .i64 m)] [some ⟨l.map AddrD.cs, 4, 144, false, true⟩] (.sc (.int .i64 (szGo m (szLAddr l)))) [some ⟨l.map AddrD.cs, 4, 144, false, true⟩] := by
  obtain ⟨R, hR⟩ : ∃ R, R = szGo m (szLAddr l) := ⟨_, rfl⟩
  rw [← hR]
  simp only [szGo, szLAddr] at hR
  refine callA_of Tryz.func31 (by kernel_rfl) rfl fun E hE => run_den 400 ?_
  simp (disch := omega) only [Tryz.ntmps31, Tryz.results31, go_sem, Nat.reduceEqDiff, Nat.reduceAdd, Nat.reduceSub, Int.reduceAdd, Int.reduceSub, Int.reduceToNat]
  split <;> rename_i h1 <;> (try simp only [beq_true, beq_false, Bool.not_eq_true', Bool.not_eq_false'] at h1) <;> simp (disch := omega) only [go_sem, Nat.reduceEqDiff, Nat.reduceAdd, Nat.reduceSub, Int.reduceAdd, Int.reduceSub, Int.reduceToNat, h1] <;> (try simp only [decide_eq_true_eq, decide_eq_false_iff_not, beq_iff_eq, beq_eq_false_iff_ne, bne_iff_ne, bne_eq_false_iff_eq, ne_eq, Decidable.not_not, Bool.and_eq_true, Bool.and_eq_false_iff, Bool.or_eq_true, Bool.or_eq_false_iff, Int.ofNat_lt, Int.ofNat_le, Bool.not_eq_eq_eq_not, Bool.not_true, Bool.not_false] at h1) <;> try simp (disch := omega) only [go_sem, Nat.reduceEqDiff, Nat.reduceAdd, Nat.reduceSub, Int.reduceAdd, Int.reduceSub, Int.reduceToNat]
  · refine den_fin [some (0, none)] (by (try simp (disch := omega) only [go_sem, Nat.reduceEqDiff, Nat.reduceAdd, Nat.reduceSub, Int.reduceAdd, Int.reduceSub, Int.reduceToNat]) <;> omega) _ (by simp only [go_sem]; rfl) (by rfl) (by rfl) ?_
    simp (disch := omega) only [go_sem, Nat.reduceEqDiff, Nat.reduceAdd, Nat.reduceSub, Int.reduceAdd, Int.reduceSub, Int.reduceToNat]
    omega
  · refine den_fin [some (0, none)] (by (try simp (disch := omega) only [go_sem, Nat.reduceEqDiff, Nat.reduceAdd, Nat.reduceSub, Int.reduceAdd, Int.reduceSub, Int.reduceToNat]) <;> omega) _ (by simp only [go_sem]; rfl) (by rfl) (by rfl) ?_
    simp (disch := omega) only [go_sem, Nat.reduceEqDiff, Nat.reduceAdd, Nat.reduceSub, Int.reduceAdd, Int.reduceSub, Int.reduceToNat]
    omega
def szLHalf (l : List HalfD) : List Int := [(l.length : Int)]
theorem szLHalf_nn (l : List HalfD) : ∀ n ∈ szLHalf l, 0 ≤ n := by
  intro n hn
  simp only [szLHalf, List.mem_cons, List.mem_map, List.not_mem_nil, or_false] at hn
  omega
theorem laws_toHalfS (l : List HalfD) (hl : l.length ≤ 1048576) : CallA Tryz.prog 56 [.sc (.sl 0 0 l.length)] [some ⟨l.map HalfD.cs, 8, 151, false, true⟩] (.sc (.sl 1 0 l.length)) [some ⟨l.map HalfD.cs, 8, 151, false, true⟩, some ⟨l.map HalfD.cs, 8, 135, true, true⟩] := by
  refine callA_of Tryz.func56 (by kernel_rfl) rfl fun E hE => run_den 400 ?_
  simp (disch := omega) only [Tryz.ntmps56, Tryz.results56, go_sem, Nat.reduceEqDiff, Nat.reduceAdd, Nat.reduceSub, Int.reduceAdd, Int.reduceSub, Int.reduceToNat]
  refine den_lp 1 hE (fun s (k : Nat) => s.at [5, 6, 7, 8, 9, 10, 11, 12, 13, 14, 15, 16, 17, 18, 19, 20, 21] [(4, .sc (.int .i64 (k : Nat)))] ([some ⟨l.map HalfD.cs, 8, 151, false, true⟩, some ⟨(l.take k).map HalfD.cs ++ List.replicate (l.length - k) [.int .i64 0, .int .i64 0, .int .i64 0, .int .i64 0, .int .i64 0, .int .i64 0, .int .i64 0, .int .i64 0], 8, 135, true, true⟩])) (fun (k : Nat) => k ≤ l.length) (fun (k : Nat) => l.length - k) 0 [some (0, none), some (1, none)] (by (try simp (disch := omega) only [go_sem, Nat.reduceEqDiff, Nat.reduceAdd, Nat.reduceSub, Int.reduceAdd, Int.reduceSub, Int.reduceToNat]) <;> omega) (Nat.zero_le _) (weak_mk (by rfl) (by rfl) ?_) fun k hk N hN => ?_
  · try simp (disch := omega) only [go_sem, Nat.reduceEqDiff, Nat.reduceAdd, Nat.reduceSub, Int.reduceAdd, Int.reduceSub, Int.reduceToNat]
    try simp
  · refine run_den 400 ?_
    try simp (disch := omega) only [go_sem, Nat.reduceEqDiff, Nat.reduceAdd, Nat.reduceSub, Int.reduceAdd, Int.reduceSub, Int.reduceToNat]
    split <;> rename_i h <;> (try simp only [beq_true, beq_false, Bool.not_eq_true', Bool.not_eq_false'] at h) <;> simp (disch := omega) only [go_sem, Nat.reduceEqDiff, Nat.reduceAdd, Nat.reduceSub, Int.reduceAdd, Int.reduceSub, Int.reduceToNat, h] <;> (try simp only [decide_eq_true_eq, decide_eq_false_iff_not, beq_iff_eq, beq_eq_false_iff_ne, bne_iff_ne, bne_eq_false_iff_eq, ne_eq, Decidable.not_not, Bool.and_eq_true, Bool.and_eq_false_iff, Bool.or_eq_true, Bool.or_eq_false_iff, Int.ofNat_lt, Int.ofNat_le, Bool.not_eq_eq_eq_not, Bool.not_true, Bool.not_false] at h) <;> try simp (disch := omega) only [go_sem, Nat.reduceEqDiff, Nat.reduceAdd, Nat.reduceSub, Int.reduceAdd, Int.reduceSub, Int.reduceToNat]
    · try simp (disch := omega) only [go_sem, Nat.reduceEqDiff, Nat.reduceAdd, Nat.reduceSub, Int.reduceAdd, Int.reduceSub, Int.reduceToNat, map_rep_get h, map_rep_len]
      refine den_call (by (try simp (disch := omega) only [go_sem, Nat.reduceEqDiff, Nat.reduceAdd, Nat.reduceSub, Int.reduceAdd, Int.reduceSub, Int.reduceToNat]) <;> omega) (laws_toHalf l[k]) [] (by simp only [go_sem]; repeat' first | rfl | constructor) (by rfl) (run_den 400 ?_)
      simp (disch := omega) only [go_sem, Nat.reduceEqDiff, Nat.reduceAdd, Nat.reduceSub, Int.reduceAdd, Int.reduceSub, Int.reduceToNat]
      try simp (disch := omega) only [go_sem, Nat.reduceEqDiff, Nat.reduceAdd, Nat.reduceSub, Int.reduceAdd, Int.reduceSub, Int.reduceToNat, map_rep_get h, map_rep_len]
      refine ⟨by (try simp (disch := omega) only [go_sem, Nat.reduceEqDiff, Nat.reduceAdd, Nat.reduceSub, Int.reduceAdd, Int.reduceSub, Int.reduceToNat, map_rep_len]) <;> omega, hN _ (k + 1) [some (0, none), some (1, none)] (by (try dsimp only); exact h) (by (try dsimp only); omega) (weak_mk (by rfl) (by rfl) ?_)⟩
      try simp (disch := omega) only [go_sem, Nat.reduceEqDiff, Nat.reduceAdd, Nat.reduceSub, Int.reduceAdd, Int.reduceSub, Int.reduceToNat]
      first | exact map_set_app h rfl | (rw [map_set_app h rfl])
    · have hk : k = l.length := by omega
      subst hk
      refine den_fin [some (0, none), some (1, none)] (by (try simp (disch := omega) only [go_sem, Nat.reduceEqDiff, Nat.reduceAdd, Nat.reduceSub, Int.reduceAdd, Int.reduceSub, Int.reduceToNat]) <;> omega) _ (by simp only [go_sem]; rfl) (by rfl) (by rfl) ?_
      simp (disch := omega) only [go_sem, Nat.reduceEqDiff, Nat.reduceAdd, Nat.reduceSub, Int.reduceAdd, Int.reduceSub, Int.reduceToNat]
      rw [map_rep_done]
theorem laws_eqHalfS (l : List HalfD) (hl : l.length ≤ 4611686018427387904) : CallA Tryz.prog 81 [.sc (.sl 0 0 l.length), .sc (.sl 1 0 l.length)] [some ⟨l.map HalfD.cs, 8, 135, false, true⟩, some ⟨l.map HalfD.cs, 8, 135, false, true⟩] (.sc (.bo true)) [some ⟨l.map HalfD.cs, 8, 135, false, true⟩, some ⟨l.map HalfD.cs, 8, 135, false, true⟩] := by
  refine callA_of Tryz.func81 (by kernel_rfl) rfl fun E hE => run_den 400 ?_
  simp (disch := omega) only [Tryz.ntmps81, Tryz.results81, go_sem, Nat.reduceEqDiff, Nat.reduceAdd, Nat.reduceSub, Int.reduceAdd, Int.reduceSub, Int.reduceToNat]
  refine den_lp 2 hE (fun s (k : Nat) => s.at [4, 6, 7, 8, 9, 10, 11, 12, 13, 14, 15, 16, 17, 18, 19, 20, 21, 22, 23, 24, 25, 26] [(5, .sc (.int .i64 (k : Nat)))] (s.hp)) (fun (k : Nat) => k ≤ l.length) (fun (k : Nat) => l.length - k) 0 [some (0, none), some (1, none)] (by (try simp (disch := omega) only [go_sem, Nat.reduceEqDiff, Nat.reduceAdd, Nat.reduceSub, Int.reduceAdd, Int.reduceSub, Int.reduceToNat]) <;> omega) (Nat.zero_le _) (weak_mk (by rfl) (by rfl) ?_) fun k hk N hN => ?_
  · try simp (disch := omega) only [go_sem, Nat.reduceEqDiff, Nat.reduceAdd, Nat.reduceSub, Int.reduceAdd, Int.reduceSub, Int.reduceToNat]
  · refine run_den 400 ?_
    try simp (disch := omega) only [go_sem, Nat.reduceEqDiff, Nat.reduceAdd, Nat.reduceSub, Int.reduceAdd, Int.reduceSub, Int.reduceToNat]
    split <;> rename_i h <;> (try simp only [beq_true, beq_false, Bool.not_eq_true', Bool.not_eq_false'] at h) <;> simp (disch := omega) only [go_sem, Nat.reduceEqDiff, Nat.reduceAdd, Nat.reduceSub, Int.reduceAdd, Int.reduceSub, Int.reduceToNat, h] <;> (try simp only [decide_eq_true_eq, decide_eq_false_iff_not, beq_iff_eq, beq_eq_false_iff_ne, bne_iff_ne, bne_eq_false_iff_eq, ne_eq, Decidable.not_not, Bool.and_eq_true, Bool.and_eq_false_iff, Bool.or_eq_true, Bool.or_eq_false_iff, Int.ofNat_lt, Int.ofNat_le, Bool.not_eq_eq_eq_not, Bool.not_true, Bool.not_false] at h) <;> try simp (disch := omega) only [go_sem, Nat.reduceEqDiff, Nat.reduceAdd, Nat.reduceSub, Int.reduceAdd, Int.reduceSub, Int.reduceToNat]
    · refine den_draw1 [0, 1, 2, 3, 4, 5, 6, 7, 8, 9] (by kernel_rfl) (trivial) (by kernel_rfl) (runD_den 400 ?_)
      simp (disch := omega) only [go_sem, Nat.reduceEqDiff, Nat.reduceAdd, Nat.reduceSub, Int.reduceAdd, Int.reduceSub, Int.reduceToNat]
      refine den_callD (by (try simp (disch := omega) only [go_sem, Nat.reduceEqDiff, Nat.reduceAdd, Nat.reduceSub, Int.reduceAdd, Int.reduceSub, Int.reduceToNat]) <;> omega) (laws_eqHalf l[k]) [] (by simp only [go_sem]; repeat' first | rfl | constructor) (by rfl) (by rfl) (runD_den 400 ?_)
      simp (disch := omega) only [go_sem, Nat.reduceEqDiff, Nat.reduceAdd, Nat.reduceSub, Int.reduceAdd, Int.reduceSub, Int.reduceToNat]
      refine ⟨by (try simp (disch := omega) only [go_sem, Nat.reduceEqDiff, Nat.reduceAdd, Nat.reduceSub, Int.reduceAdd, Int.reduceSub, Int.reduceToNat]) <;> omega, run_den 400 ?_⟩
      try simp (disch := omega) only [go_sem, Nat.reduceEqDiff, Nat.reduceAdd, Nat.reduceSub, Int.reduceAdd, Int.reduceSub, Int.reduceToNat]
      refine ⟨by (try simp (disch := omega) only [go_sem, Nat.reduceEqDiff, Nat.reduceAdd, Nat.reduceSub, Int.reduceAdd, Int.reduceSub, Int.reduceToNat]) <;> omega, hN _ (k + 1) [some (0, none), some (1, none)] (by (try dsimp only); exact h) (by (try dsimp only); omega) (weak_mk (by rfl) (by rfl) ?_)⟩
      try simp (disch := omega) only [go_sem, Nat.reduceEqDiff, Nat.reduceAdd, Nat.reduceSub, Int.reduceAdd, Int.reduceSub, Int.reduceToNat]
    · refine den_fin [some (0, none), some (1, none)] (by (try simp (disch := omega) only [go_sem, Nat.reduceEqDiff, Nat.reduceAdd, Nat.reduceSub, Int.reduceAdd, Int.reduceSub, Int.reduceToNat]) <;> omega) _ (by simp only [go_sem]; rfl) (by rfl) (by rfl) ?_
      simp (disch := omega) only [go_sem, Nat.reduceEqDiff, Nat.reduceAdd, Nat.reduceSub, Int.reduceAdd, Int.reduceSub, Int.reduceToNat]
theorem laws_szHalfS (l : List HalfD) (m : Int) (hl : l.length ≤ 9223372036854775807) (h0 : 0 ≤ m) (h : m ≤ 1048576) : CallA Tryz.prog 33 [.sc (.sl 0 0 l.length), .sc (.int .i64 m)] [some ⟨l.map HalfD.cs, 8, 151, false, true⟩] (.sc (.int .i64 (szGo m (szLHalf l)))) [some ⟨l.map HalfD.cs, 8, 151, false, true⟩] := by
  obtain ⟨R, hR⟩ : ∃ R, R = szGo m (szLHalf l) := ⟨_, rfl⟩
  rw [← hR]
  simp only [szGo, szLHalf] at hR
  refine callA_of Tryz.func33 (by kernel_rfl) rfl fun E hE => run_den 400 ?_
  simp (disch := omega) only [Tryz.ntmps33, Tryz.results33, go_sem, Nat.reduceEqDiff, Nat.reduceAdd, Nat.reduceSub, Int.reduceAdd, Int.reduceSub, Int.reduceToNat]
  split <;> rename_i h1 <;> (try simp only [beq_true, beq_false, Bool.not_eq_true', Bool.not_eq_false'] at h1) <;> simp (disch := omega) only [go_sem, Nat.reduceEqDiff, Nat.reduceAdd, Nat.reduceSub, Int.reduceAdd, Int.reduceSub, Int.reduceToNat, h1] <;> (try simp only [decide_eq_true_eq, decide_eq_false_iff_not, beq_iff_eq, beq_eq_false_iff_ne, bne_iff_ne, bne_eq_false_iff_eq, ne_eq, Decidable.not_not, Bool.and_eq_true, Bool.and_eq_false_iff, Bool.or_eq_true, Bool.or_eq_false_iff, Int.ofNat_lt, Int.ofNat_le, Bool.not_eq_eq_eq_not, Bool.not_true, Bool.not_false] at h1) <;> try simp (disch := omega) only [go_sem, Nat.reduceEqDiff, Nat.reduceAdd, Nat.reduceSub, Int.reduceAdd, Int.reduceSub, Int.reduceToNat]
  · refine den_fin [some (0, none)] (by (try simp (disch := omega) only [go_sem, Nat.reduceEqDiff, Nat.reduceAdd, Nat.reduceSub, Int.reduceAdd, Int.reduceSub, Int.reduceToNat]) <;> omega) _ (by simp only [go_sem]; rfl) (by rfl) (by rfl) ?_
    simp (disch := omega) only [go_sem, Nat.reduceEqDiff, Nat.reduceAdd, Nat.reduceSub, Int.reduceAdd, Int.reduceSub, Int.reduceToNat]
    omega
  · refine den_fin [some (0, none)] (by (try simp (disch := omega) only [go_sem, Nat.reduceEqDiff, Nat.reduceAdd, Nat.reduceSub, Int.reduceAdd, Int.reduceSub, Int.reduceToNat]) <;> omega) _ (by simp only [go_sem]; rfl) (by rfl) (by rfl) ?_
    simp (disch := omega) only [go_sem, Nat.reduceEqDiff, Nat.reduceAdd, Nat.reduceSub, Int.reduceAdd, Int.reduceSub, Int.reduceToNat]
    omega
def szLTag (l : List TagD) : List Int := [(l.length : Int)]
theorem szLTag_nn (l : List TagD) : ∀ n ∈ szLTag l, 0 ≤ n := by
  intro n hn
  simp only [szLTag, List.mem_cons, List.mem_map, List.not_mem_nil, or_false] at hn
  omega
theorem laws_toTagS (l : List TagD) (hl : l.length ≤ 1048576) : CallA Tryz.prog 61 [.sc (.sl 0 0 l.length)] [some ⟨l.map TagD.cs, 5, 85, false, true⟩] (.sc (.sl 1 0 l.length)) [some ⟨l.map TagD.cs, 5, 85, false, true⟩, some ⟨l.map TagD.cs, 5, 114, true, true⟩] := by
  refine callA_of Tryz.func61 (by kernel_rfl) rfl fun E hE => run_den 400 ?_
  simp (disch := omega) only [Tryz.ntmps61, Tryz.results61, go_sem, Nat.reduceEqDiff, Nat.reduceAdd, Nat.reduceSub, Int.reduceAdd, Int.reduceSub, Int.reduceToNat]
  refine den_lp 1 hE (fun s (k : Nat) => s.at [5, 6, 7, 8, 9, 10, 11, 12, 13, 14, 15, 16, 17, 18, 19, 20, 21] [(4, .sc (.int .i64 (k : Nat)))] ([some ⟨l.map TagD.cs, 5, 85, false, true⟩, some ⟨(l.take k).map TagD.cs ++ List.replicate (l.length - k) [.int .i64 0, .int .i64 0, .int .i64 0, .int .i64 0, .int .i64 0], 5, 114, true, true⟩])) (fun (k : Nat) => k ≤ l.length) (fun (k : Nat) => l.length - k) 0 [some (0, none), some (1, none)] (by (try simp (disch := omega) only [go_sem, Nat.reduceEqDiff, Nat.reduceAdd, Nat.reduceSub, Int.reduceAdd, Int.reduceSub, Int.reduceToNat]) <;> omega) (Nat.zero_le _) (weak_mk (by rfl) (by rfl) ?_) fun k hk N hN => ?_
  · try simp (disch := omega) only [go_sem, Nat.reduceEqDiff, Nat.reduceAdd, Nat.reduceSub, Int.reduceAdd, Int.reduceSub, Int.reduceToNat]
    try simp
  · refine run_den 400 ?_
    try simp (disch := omega) only [go_sem, Nat.reduceEqDiff, Nat.reduceAdd, Nat.reduceSub, Int.reduceAdd, Int.reduceSub, Int.reduceToNat]
    split <;> rename_i h <;> (try simp only [beq_true, beq_false, Bool.not_eq_true', Bool.not_eq_false'] at h) <;> simp (disch := omega) only [go_sem, Nat.reduceEqDiff, Nat.reduceAdd, Nat.reduceSub, Int.reduceAdd, Int.reduceSub, Int.reduceToNat, h] <;> (try simp only [decide_eq_true_eq, decide_eq_false_iff_not, beq_iff_eq, beq_eq_false_iff_ne, bne_iff_ne, bne_eq_false_iff_eq, ne_eq, Decidable.not_not, Bool.and_eq_true, Bool.and_eq_false_iff, Bool.or_eq_true, Bool.or_eq_false_iff, Int.ofNat_lt, Int.ofNat_le, Bool.not_eq_eq_eq_not, Bool.not_true, Bool.not_false] at h) <;> try simp (disch := omega) only [go_sem, Nat.reduceEqDiff, Nat.reduceAdd, Nat.reduceSub, Int.reduceAdd, Int.reduceSub, Int.reduceToNat]
    · try simp (disch := omega) only [go_sem, Nat.reduceEqDiff, Nat.reduceAdd, Nat.reduceSub, Int.reduceAdd, Int.reduceSub, Int.reduceToNat, map_rep_get h, map_rep_len]
      refine den_call (by (try simp (disch := omega) only [go_sem, Nat.reduceEqDiff, Nat.reduceAdd, Nat.reduceSub, Int.reduceAdd, Int.reduceSub, Int.reduceToNat]) <;> omega) (laws_toTag l[k]) [] (by simp only [go_sem]; repeat' first | rfl | constructor) (by rfl) (run_den 400 ?_)
      simp (disch := omega) only [go_sem, Nat.reduceEqDiff, Nat.reduceAdd, Nat.reduceSub, Int.reduceAdd, Int.reduceSub, Int.reduceToNat]
      try simp (disch := omega) only [go_sem, Nat.reduceEqDiff, Nat.reduceAdd, Nat.reduceSub, Int.reduceAdd, Int.reduceSub, Int.reduceToNat, map_rep_get h, map_rep_len]
      refine ⟨by (try simp (disch := omega) only [go_sem, Nat.reduceEqDiff, Nat.reduceAdd, Nat.reduceSub, Int.reduceAdd, Int.reduceSub, Int.reduceToNat, map_rep_len]) <;> omega, hN _ (k + 1) [some (0, none), some (1, none)] (by (try dsimp only); exact h) (by (try dsimp only); omega) (weak_mk (by rfl) (by rfl) ?_)⟩
      try simp (disch := omega) only [go_sem, Nat.reduceEqDiff, Nat.reduceAdd, Nat.reduceSub, Int.reduceAdd, Int.reduceSub, Int.reduceToNat]
      first | exact map_set_app h rfl | (rw [map_set_app h rfl])
    · have hk : k = l.length := by omega
      subst hk
      refine den_fin [some (0, none), some (1, none)] (by (try simp (disch := omega) only [go_sem, Nat.reduceEqDiff, Nat.reduceAdd, Nat.reduceSub, Int.reduceAdd, Int.reduceSub, Int.reduceToNat]) <;> omega) _ (by simp only [go_sem]; rfl) (by rfl) (by rfl) ?_
      simp (disch := omega) only [go_sem, Nat.reduceEqDiff, Nat.reduceAdd, Nat.reduceSub, Int.reduceAdd, Int.reduceSub, Int.reduceToNat]
      rw [map_rep_done]
theorem laws_eqTagS (l : List TagD) (hl : l.length ≤ 4611686018427387904) : CallA Tryz.prog 86 [.sc (.sl 0 0 l.length), .sc (.sl 1 0 l.length)] [some ⟨l.map TagD.cs, 5, 114, false, true⟩, some ⟨l.map TagD.cs, 5, 114, false, true⟩] (.sc (.bo true)) [some ⟨l.map TagD.cs, 5, 114, false, true⟩, some ⟨l.map TagD.cs, 5, 114, false, true⟩] := by
  refine callA_of Tryz.func86 (by kernel_rfl) rfl fun E hE => run_den 400 ?_
  simp (disch := omega) only [Tryz.ntmps86, Tryz.results86, go_sem, Nat.reduceEqDiff, Nat.reduceAdd, Nat.reduceSub, Int.reduceAdd, Int.reduceSub, Int.reduceToNat]
  refine den_lp 2 hE (fun s (k : Nat) => s.at [4, 6, 7, 8, 9, 10, 11, 12, 13, 14, 15, 16, 17, 18, 19, 20, 21, 22, 23, 24, 25, 26] [(5, .sc (.int .i64 (k : Nat)))] (s.hp)) (fun (k : Nat) => k ≤ l.length) (fun (k : Nat) => l.length - k) 0 [some (0, none), some (1, none)] (by (try simp (disch := omega) only [go_sem, Nat.reduceEqDiff, Nat.reduceAdd, Nat.reduceSub, Int.reduceAdd, Int.reduceSub, Int.reduceToNat]) <;> omega) (Nat.zero_le _) (weak_mk (by rfl) (by rfl) ?_) fun k hk N hN => ?_
  · try simp (disch := omega) only [go_sem, Nat.reduceEqDiff, Nat.reduceAdd, Nat.reduceSub, Int.reduceAdd, Int.reduceSub, Int.reduceToNat]
  · refine run_den 400 ?_
    try simp (disch := omega) only [go_sem, Nat.reduceEqDiff, Nat.reduceAdd, Nat.reduceSub, Int.reduceAdd, Int.reduceSub, Int.reduceToNat]
    split <;> rename_i h <;> (try simp only [beq_true, beq_false, Bool.not_eq_true', Bool.not_eq_false'] at h) <;> simp (disch := omega) only [go_sem, Nat.reduceEqDiff, Nat.reduceAdd, Nat.reduceSub, Int.reduceAdd, Int.reduceSub, Int.reduceToNat, h] <;> (try simp only [decide_eq_true_eq, decide_eq_false_iff_not, beq_iff_eq, beq_eq_false_iff_ne, bne_iff_ne, bne_eq_false_iff_eq, ne_eq, Decidable.not_not, Bool.and_eq_true, Bool.and_eq_false_iff, Bool.or_eq_true, Bool.or_eq_false_iff, Int.ofNat_lt, Int.ofNat_le, Bool.not_eq_eq_eq_not, Bool.not_true, Bool.not_false] at h) <;> try simp (disch := omega) only [go_sem, Nat.reduceEqDiff, Nat.reduceAdd, Nat.reduceSub, Int.reduceAdd, Int.reduceSub, Int.reduceToNat]
    · refine den_draw1 [0, 1, 2, 3, 4, 5, 6, 7, 8, 9] (by kernel_rfl) (trivial) (by kernel_rfl) (runD_den 400 ?_)
      simp (disch := omega) only [go_sem, Nat.reduceEqDiff, Nat.reduceAdd, Nat.reduceSub, Int.reduceAdd, Int.reduceSub, Int.reduceToNat]
      refine den_callD (by (try simp (disch := omega) only [go_sem, Nat.reduceEqDiff, Nat.reduceAdd, Nat.reduceSub, Int.reduceAdd, Int.reduceSub, Int.reduceToNat]) <;> omega) (laws_eqTag l[k]) [] (by simp only [go_sem]; repeat' first | rfl | constructor) (by rfl) (by rfl) (runD_den 400 ?_)
      simp (disch := omega) only [go_sem, Nat.reduceEqDiff, Nat.reduceAdd, Nat.reduceSub, Int.reduceAdd, Int.reduceSub, Int.reduceToNat]
      refine ⟨by (try simp (disch := omega) only [go_sem, Nat.reduceEqDiff, Nat.reduceAdd, Nat.reduceSub, Int.reduceAdd, Int.reduceSub, Int.reduceToNat]) <;> omega, run_den 400 ?_⟩
      try simp (disch := omega) only [go_sem, Nat.reduceEqDiff, Nat.reduceAdd, Nat.reduceSub, Int.reduceAdd, Int.reduceSub, Int.reduceToNat]
      refine ⟨by (try simp (disch := omega) only [go_sem, Nat.reduceEqDiff, Nat.reduceAdd, Nat.reduceSub, Int.reduceAdd, Int.reduceSub, Int.reduceToNat]) <;> omega, hN _ (k + 1) [some (0, none), some (1, none)] (by (try dsimp only); exact h) (by (try dsimp only); omega) (weak_mk (by rfl) (by rfl) ?_)⟩
      try simp (disch := omega) only [go_sem, Nat.reduceEqDiff, Nat.reduceAdd, Nat.reduceSub, Int.reduceAdd, Int.reduceSub, Int.reduceToNat]
    · refine den_fin [some (0, none), some (1, none)] (by (try simp (disch := omega) only [go_sem, Nat.reduceEqDiff, Nat.reduceAdd, Nat.reduceSub, Int.reduceAdd, Int.reduceSub, Int.reduceToNat]) <;> omega) _ (by simp only [go_sem]; rfl) (by rfl) (by rfl) ?_
      simp (disch := omega) only [go_sem, Nat.reduceEqDiff, Nat.reduceAdd, Nat.reduceSub, Int.reduceAdd, Int.reduceSub, Int.reduceToNat]
theorem laws_szTagS (l : List TagD) (m : Int) (hl : l.length ≤ 9223372036854775807) (h0 : 0 ≤ m) (h : m ≤ 1048576) : CallA Tryz.prog 37 [.sc (.sl 0 0 l.length), .sc (.int .i64 m)] [some ⟨l.map TagD.cs, 5, 85, false, true⟩] (.sc (.int .i64 (szGo m (szLTag l)))) [some ⟨l.map TagD.cs, 5, 85, false, true⟩] := by
  obtain ⟨R, hR⟩ : ∃ R, R = szGo m (szLTag l) := ⟨_, rfl⟩
  rw [← hR]
  simp only [szGo, szLTag] at hR
  refine callA_of Tryz.func37 (by kernel_rfl) rfl fun E hE => run_den 400 ?_
  simp (disch := omega) only [Tryz.ntmps37, Tryz.results37, go_sem, Nat.reduceEqDiff, Nat.reduceAdd, Nat.reduceSub, Int.reduceAdd, Int.reduceSub, Int.reduceToNat]
  split <;> rename_i h1 <;> (try simp only [beq_true, beq_false, Bool.not_eq_true', Bool.not_eq_false'] at h1) <;> simp (disch := omega) only [go_sem, Nat.reduceEqDiff, Nat.reduceAdd, Nat.reduceSub, Int.reduceAdd, Int.reduceSub, Int.reduceToNat, h1] <;> (try simp only [decide_eq_true_eq, decide_eq_false_iff_not, beq_iff_eq, beq_eq_false_iff_ne, bne_iff_ne, bne_eq_false_iff_eq, ne_eq, Decidable.not_not, Bool.and_eq_true, Bool.and_eq_false_iff, Bool.or_eq_true, Bool.or_eq_false_iff, Int.ofNat_lt, Int.ofNat_le, Bool.not_eq_eq_eq_not, Bool.not_true, Bool.not_false] at h1) <;> try simp (disch := omega) only [go_sem, Nat.reduceEqDiff, Nat.reduceAdd, Nat.reduceSub, Int.reduceAdd, Int.reduceSub, Int.reduceToNat]
  · refine den_fin [some (0, none)] (by (try simp (disch := omega) only [go_sem, Nat.reduceEqDiff, Nat.reduceAdd, Nat.reduceSub, Int.reduceAdd, Int.reduceSub, Int.reduceToNat]) <;> omega) _ (by simp only [go_sem]; rfl) (by rfl) (by rfl) ?_
    simp (disch := omega) only [go_sem, Nat.reduceEqDiff, Nat.reduceAdd, Nat.reduceSub, Int.reduceAdd, Int.reduceSub, Int.reduceToNat]
    omega
  · refine den_fin [some (0, none)] (by (try simp (disch := omega) only [go_sem, Nat.reduceEqDiff, Nat.reduceAdd, Nat.reduceSub, Int.reduceAdd, Int.reduceSub, Int.reduceToNat]) <;> omega) _ (by simp only [go_sem]; rfl) (by rfl) (by rfl) ?_
    simp (disch := omega) only [go_sem, Nat.reduceEqDiff, Nat.reduceAdd, Nat.reduceSub, Int.reduceAdd, Int.reduceSub, Int.reduceToNat]
    omega
def szLLetter (l : List LetterD) : List Int := (l.length : Int) :: l.map fun y => (y.text.length : Int)
theorem szLLetter_nn (l : List LetterD) : ∀ n ∈ szLLetter l, 0 ≤ n := by
  intro n hn
  simp only [szLLetter, List.mem_cons, List.mem_map, List.not_mem_nil, or_false] at hn
  rcases hn with rfl | ⟨y, _, rfl⟩ <;> omega
theorem laws_toLetterS (l : List LetterD) (hl : l.length ≤ 1048576) : CallA Tryz.prog 19 [.sc (.sl 0 0 l.length)] [some ⟨l.map LetterD.cs, 19, 87, false, true⟩] (.sc (.sl 1 0 l.length)) [some ⟨l.map LetterD.cs, 19, 87, false, true⟩, some ⟨l.map LetterD.cs, 19, 116, true, true⟩] := by
  refine callA_of Tryz.func19 (by kernel_rfl) rfl fun E hE => run_den 400 ?_
  simp (disch := omega) only [Tryz.ntmps19, Tryz.results19, go_sem, Nat.reduceEqDiff, Nat.reduceAdd, Nat.reduceSub, Int.reduceAdd, Int.reduceSub, Int.reduceToNat]
  refine den_lp 1 hE (fun s (k : Nat) => s.at [5, 6, 7, 8, 9, 10, 11, 12, 13, 14, 15, 16, 17, 18, 19, 20, 21] [(4, .sc (.int .i64 (k : Nat)))] ([some ⟨l.map LetterD.cs, 19, 87, false, true⟩, some ⟨(l.take k).map LetterD.cs ++ List.replicate (l.length - k) [.int .i64 0, .int .i64 0, .int .i64 0, .int .i64 0, .int .i64 0, .int .i64 0, .int .i64 0, .int .i64 0, .int .i64 0, .int .i64 0, .int .i64 0, .int .i64 0, .int .i64 0, .int .i64 0, .int .i64 0, .int .i64 0, .bo false, .int .i64 0, .st []], 19, 116, true, true⟩])) (fun (k : Nat) => k ≤ l.length) (fun (k : Nat) => l.length - k) 0 [some (0, none), some (1, none)] (by (try simp (disch := omega) only [go_sem, Nat.reduceEqDiff, Nat.reduceAdd, Nat.reduceSub, Int.reduceAdd, Int.reduceSub, Int.reduceToNat]) <;> omega) (Nat.zero_le _) (weak_mk (by rfl) (by rfl) ?_) fun k hk N hN => ?_
  · try simp (disch := omega) only [go_sem, Nat.reduceEqDiff, Nat.reduceAdd, Nat.reduceSub, Int.reduceAdd, Int.reduceSub, Int.reduceToNat]
    try simp
  · refine run_den 400 ?_
    try simp (disch := omega) only [go_sem, Nat.reduceEqDiff, Nat.reduceAdd, Nat.reduceSub, Int.reduceAdd, Int.reduceSub, Int.reduceToNat]
    split <;> rename_i h <;> (try simp only [beq_true, beq_false, Bool.not_eq_true', Bool.not_eq_false'] at h) <;> simp (disch := omega) only [go_sem, Nat.reduceEqDiff, Nat.reduceAdd, Nat.reduceSub, Int.reduceAdd, Int.reduceSub, Int.reduceToNat, h] <;> (try simp only [decide_eq_true_eq, decide_eq_false_iff_not, beq_iff_eq, beq_eq_false_iff_ne, bne_iff_ne, bne_eq_false_iff_eq, ne_eq, Decidable.not_not, Bool.and_eq_true, Bool.and_eq_false_iff, Bool.or_eq_true, Bool.or_eq_false_iff, Int.ofNat_lt, Int.ofNat_le, Bool.not_eq_eq_eq_not, Bool.not_true, Bool.not_false] at h) <;> try simp (disch := omega) only [go_sem, Nat.reduceEqDiff, Nat.reduceAdd, Nat.reduceSub, Int.reduceAdd, Int.reduceSub, Int.reduceToNat]
    · try simp (disch := omega) only [go_sem, Nat.reduceEqDiff, Nat.reduceAdd, Nat.reduceSub, Int.reduceAdd, Int.reduceSub, Int.reduceToNat, map_rep_get h, map_rep_len]
      refine den_call (by (try simp (disch := omega) only [go_sem, Nat.reduceEqDiff, Nat.reduceAdd, Nat.reduceSub, Int.reduceAdd, Int.reduceSub, Int.reduceToNat]) <;> omega) (laws_toLetter l[k]) [] (by simp only [go_sem]; repeat' first | rfl | constructor) (by rfl) (run_den 400 ?_)
      simp (disch := omega) only [go_sem, Nat.reduceEqDiff, Nat.reduceAdd, Nat.reduceSub, Int.reduceAdd, Int.reduceSub, Int.reduceToNat]
      try simp (disch := omega) only [go_sem, Nat.reduceEqDiff, Nat.reduceAdd, Nat.reduceSub, Int.reduceAdd, Int.reduceSub, Int.reduceToNat, map_rep_get h, map_rep_len]
      refine ⟨by (try simp (disch := omega) only [go_sem, Nat.reduceEqDiff, Nat.reduceAdd, Nat.reduceSub, Int.reduceAdd, Int.reduceSub, Int.reduceToNat, map_rep_len]) <;> omega, hN _ (k + 1) [some (0, none), some (1, none)] (by (try dsimp only); exact h) (by (try dsimp only); omega) (weak_mk (by rfl) (by rfl) ?_)⟩
      try simp (disch := omega) only [go_sem, Nat.reduceEqDiff, Nat.reduceAdd, Nat.reduceSub, Int.reduceAdd, Int.reduceSub, Int.reduceToNat]
      first | exact map_set_app h rfl | (rw [map_set_app h rfl])
    · have hk : k = l.length := by omega
      subst hk
      refine den_fin [some (0, none), some (1, none)] (by (try simp (disch := omega) only [go_sem, Nat.reduceEqDiff, Nat.reduceAdd, Nat.reduceSub, Int.reduceAdd, Int.reduceSub, Int.reduceToNat]) <;> omega) _ (by simp only [go_sem]; rfl) (by rfl) (by rfl) ?_
      simp (disch := omega) only [go_sem, Nat.reduceEqDiff, Nat.reduceAdd, Nat.reduceSub, Int.reduceAdd, Int.reduceSub, Int.reduceToNat]
      rw [map_rep_done]
theorem laws_eqLetterS (l : List LetterD) (hl : l.length ≤ 4611686018427387904) : CallA Tryz.prog 28 [.sc (.sl 0 0 l.length), .sc (.sl 1 0 l.length)] [some ⟨l.map LetterD.cs, 19, 116, false, true⟩, some ⟨l.map LetterD.cs, 19, 116, false, true⟩] (.sc (.bo true)) [some ⟨l.map LetterD.cs, 19, 116, false, true⟩, some ⟨l.map LetterD.cs, 19, 116, false, true⟩] := by
  refine callA_of Tryz.func28 (by kernel_rfl) rfl fun E hE => run_den 400 ?_
  simp (disch := omega) only [Tryz.ntmps28, Tryz.results28, go_sem, Nat.reduceEqDiff, Nat.reduceAdd, Nat.reduceSub, Int.reduceAdd, Int.reduceSub, Int.reduceToNat]
  refine den_lp 2 hE (fun s (k : Nat) => s.at [4, 6, 7, 8, 9, 10, 11, 12, 13, 14, 15, 16, 17, 18, 19, 20, 21, 22, 23, 24, 25, 26] [(5, .sc (.int .i64 (k : Nat)))] (s.hp)) (fun (k : Nat) => k ≤ l.length) (fun (k : Nat) => l.length - k) 0 [some (0, none), some (1, none)] (by (try simp (disch := omega) only [go_sem, Nat.reduceEqDiff, Nat.reduceAdd, Nat.reduceSub, Int.reduceAdd, Int.reduceSub, Int.reduceToNat]) <;> omega) (Nat.zero_le _) (weak_mk (by rfl) (by rfl) ?_) fun k hk N hN => ?_
  · try simp (disch := omega) only [go_sem, Nat.reduceEqDiff, Nat.reduceAdd, Nat.reduceSub, Int.reduceAdd, Int.reduceSub, Int.reduceToNat]
  · refine run_den 400 ?_
    try simp (disch := omega) only [go_sem, Nat.reduceEqDiff, Nat.reduceAdd, Nat.reduceSub, Int.reduceAdd, Int.reduceSub, Int.reduceToNat]
    split <;> rename_i h <;> (try simp only [beq_true, beq_false, Bool.not_eq_true', Bool.not_eq_false'] at h) <;> simp (disch := omega) only [go_sem, Nat.reduceEqDiff, Nat.reduceAdd, Nat.reduceSub, Int.reduceAdd, Int.reduceSub, Int.reduceToNat, h] <;> (try simp only [decide_eq_true_eq, decide_eq_false_iff_not, beq_iff_eq, beq_eq_false_iff_ne, bne_iff_ne, bne_eq_false_iff_eq, ne_eq, Decidable.not_not, Bool.and_eq_true, Bool.and_eq_false_iff, Bool.or_eq_true, Bool.or_eq_false_iff, Int.ofNat_lt, Int.ofNat_le, Bool.not_eq_eq_eq_not, Bool.not_true, Bool.not_false] at h) <;> try simp (disch := omega) only [go_sem, Nat.reduceEqDiff, Nat.reduceAdd, Nat.reduceSub, Int.reduceAdd, Int.reduceSub, Int.reduceToNat]
    · refine den_draw1 [0, 1, 2, 3, 4, 5, 6, 7, 8, 9] (by kernel_rfl) (trivial) (by kernel_rfl) (runD_den 400 ?_)
      simp (disch := omega) only [go_sem, Nat.reduceEqDiff, Nat.reduceAdd, Nat.reduceSub, Int.reduceAdd, Int.reduceSub, Int.reduceToNat]
      refine den_callD (by (try simp (disch := omega) only [go_sem, Nat.reduceEqDiff, Nat.reduceAdd, Nat.reduceSub, Int.reduceAdd, Int.reduceSub, Int.reduceToNat]) <;> omega) (laws_eqLetter l[k]) [] (by simp only [go_sem]; repeat' first | rfl | constructor) (by rfl) (by rfl) (runD_den 400 ?_)
      simp (disch := omega) only [go_sem, Nat.reduceEqDiff, Nat.reduceAdd, Nat.reduceSub, Int.reduceAdd, Int.reduceSub, Int.reduceToNat]
      refine ⟨by (try simp (disch := omega) only [go_sem, Nat.reduceEqDiff, Nat.reduceAdd, Nat.reduceSub, Int.reduceAdd, Int.reduceSub, Int.reduceToNat]) <;> omega, run_den 400 ?_⟩
      try simp (disch := omega) only [go_sem, Nat.reduceEqDiff, Nat.reduceAdd, Nat.reduceSub, Int.reduceAdd, Int.reduceSub, Int.reduceToNat]
      refine ⟨by (try simp (disch := omega) only [go_sem, Nat.reduceEqDiff, Nat.reduceAdd, Nat.reduceSub, Int.reduceAdd, Int.reduceSub, Int.reduceToNat]) <;> omega, hN _ (k + 1) [some (0, none), some (1, none)] (by (try dsimp only); exact h) (by (try dsimp only); omega) (weak_mk (by rfl) (by rfl) ?_)⟩
      try simp (disch := omega) only [go_sem, Nat.reduceEqDiff, Nat.reduceAdd, Nat.reduceSub, Int.reduceAdd, Int.reduceSub, Int.reduceToNat]
    · refine den_fin [some (0, none), some (1, none)] (by (try simp (disch := omega) only [go_sem, Nat.reduceEqDiff, Nat.reduceAdd, Nat.reduceSub, Int.reduceAdd, Int.reduceSub, Int.reduceToNat]) <;> omega) _ (by simp only [go_sem]; rfl) (by rfl) (by rfl) ?_
      simp (disch := omega) only [go_sem, Nat.reduceEqDiff, Nat.reduceAdd, Nat.reduceSub, Int.reduceAdd, Int.reduceSub, Int.reduceToNat]
theorem laws_szLetterS (l : List LetterD) (m : Int) (hw : ∀ y ∈ l, y.wf) (hl : l.length ≤ 9223372036854775807) (h0 : 0 ≤ m) (h : m ≤ 1048576) : CallA Tryz.prog 10 [.sc (.sl 0 0 l.length), .sc (.int .i64 m)] [some ⟨l.map LetterD.cs, 19, 87, false, true⟩] (.sc (.int .i64 (szGo m (szLLetter l)))) [some ⟨l.map LetterD.cs, 19, 87, false, true⟩] := by
  obtain ⟨R, hR⟩ : ∃ R, R = szGo m (szLLetter l) := ⟨_, rfl⟩
  rw [← hR]
  simp only [szGo, szLLetter] at hR
  refine callA_of Tryz.func10 (by kernel_rfl) rfl fun E hE => run_den 400 ?_
  simp (disch := omega) only [Tryz.ntmps10, Tryz.results10, go_sem, Nat.reduceEqDiff, Nat.reduceAdd, Nat.reduceSub, Int.reduceAdd, Int.reduceSub, Int.reduceToNat]
  split <;> rename_i h1 <;> (try simp only [beq_true, beq_false, Bool.not_eq_true', Bool.not_eq_false'] at h1) <;> simp (disch := omega) only [go_sem, Nat.reduceEqDiff, Nat.reduceAdd, Nat.reduceSub, Int.reduceAdd, Int.reduceSub, Int.reduceToNat, h1] <;> (try simp only [decide_eq_true_eq, decide_eq_false_iff_not, beq_iff_eq, beq_eq_false_iff_ne, bne_iff_ne, bne_eq_false_iff_eq, ne_eq, Decidable.not_not, Bool.and_eq_true, Bool.and_eq_false_iff, Bool.or_eq_true, Bool.or_eq_false_iff, Int.ofNat_lt, Int.ofNat_le, Bool.not_eq_eq_eq_not, Bool.not_true, Bool.not_false] at h1) <;> try simp (disch := omega) only [go_sem, Nat.reduceEqDiff, Nat.reduceAdd, Nat.reduceSub, Int.reduceAdd, Int.reduceSub, Int.reduceToNat]
  · refine den_fin [some (0, none)] (by (try simp (disch := omega) only [go_sem, Nat.reduceEqDiff, Nat.reduceAdd, Nat.reduceSub, Int.reduceAdd, Int.reduceSub, Int.reduceToNat]) <;> omega) _ (by simp only [go_sem]; rfl) (by rfl) (by rfl) ?_
    simp (disch := omega) only [go_sem, Nat.reduceEqDiff, Nat.reduceAdd, Nat.reduceSub, Int.reduceAdd, Int.reduceSub, Int.reduceToNat]
    omega
  · rw [if_neg (by omega)] at hR
    have hs : R = szGo (m - l.length) ((l.drop 0).map fun y => (y.text.length : Int)) := hR
    refine den_lp 1 hE (fun s (x : Nat × Int) => s.at [4, 6, 7, 8, 9, 10, 11, 12, 13, 14, 15, 16, 17, 18, 19, 20, 21, 22, 23, 24, 25] [(5, .sc (.int .i64 (x.1 : Nat))), (1, .sc (.int .i64 x.2))] (s.hp)) (fun (x : Nat × Int) => x.1 ≤ l.length ∧ 0 ≤ x.2 ∧ x.2 ≤ 1048576 ∧ R = szGo x.2 ((l.drop x.1).map fun y => (y.text.length : Int))) (fun (x : Nat × Int) => l.length - x.1) (0, m - l.length) [some (0, none)] (by (try simp (disch := omega) only [go_sem, Nat.reduceEqDiff, Nat.reduceAdd, Nat.reduceSub, Int.reduceAdd, Int.reduceSub, Int.reduceToNat]) <;> omega) (⟨Nat.zero_le _, by omega, by omega, hs⟩) (weak_mk (by rfl) (by rfl) ?_) fun x hx N hN => ?_
    · try simp (disch := omega) only [go_sem, Nat.reduceEqDiff, Nat.reduceAdd, Nat.reduceSub, Int.reduceAdd, Int.reduceSub, Int.reduceToNat]
    · obtain ⟨k, r⟩ := x
      obtain ⟨hk1, hk2, hk3, hk4⟩ := hx
      dsimp only at hk1 hk2 hk3 hk4
      refine run_den 400 ?_
      try simp (disch := omega) only [go_sem, Nat.reduceEqDiff, Nat.reduceAdd, Nat.reduceSub, Int.reduceAdd, Int.reduceSub, Int.reduceToNat]
      split <;> rename_i h2 <;> (try simp only [beq_true, beq_false, Bool.not_eq_true', Bool.not_eq_false'] at h2) <;> simp (disch := omega) only [go_sem, Nat.reduceEqDiff, Nat.reduceAdd, Nat.reduceSub, Int.reduceAdd, Int.reduceSub, Int.reduceToNat, h2] <;> (try simp only [decide_eq_true_eq, decide_eq_false_iff_not, beq_iff_eq, beq_eq_false_iff_ne, bne_iff_ne, bne_eq_false_iff_eq, ne_eq, Decidable.not_not, Bool.and_eq_true, Bool.and_eq_false_iff, Bool.or_eq_true, Bool.or_eq_false_iff, Int.ofNat_lt, Int.ofNat_le, Bool.not_eq_eq_eq_not, Bool.not_true, Bool.not_false] at h2) <;> try simp (disch := omega) only [go_sem, Nat.reduceEqDiff, Nat.reduceAdd, Nat.reduceSub, Int.reduceAdd, Int.reduceSub, Int.reduceToNat]
      · rw [szGo_step h2] at hk4
        have hwf : l[k].wf := hw _ (List.getElem_mem h2)
        have hlx : l[k].text.length ≤ 9223372036854775807 := (fun h => h.2.2.2.2.2.2.2.2.2.2.2.2.2.2.2.2.2) hwf
        refine den_call (by (try simp (disch := omega) only [go_sem, Nat.reduceEqDiff, Nat.reduceAdd, Nat.reduceSub, Int.reduceAdd, Int.reduceSub, Int.reduceToNat]) <;> omega) (laws_szLetter l[k] r hlx hk2 hk3) [] (by simp only [go_sem]; repeat' first | rfl | constructor) (by rfl) (run_den 400 ?_)
        simp (disch := omega) only [go_sem, Nat.reduceEqDiff, Nat.reduceAdd, Nat.reduceSub, Int.reduceAdd, Int.reduceSub, Int.reduceToNat]
        have eg : szGo r [(l[k].text.length : Int)] = (if r - (l[k].text.length : Int) < 0 then -1 else r - (l[k].text.length : Int)) := rfl
        generalize szGo r [(l[k].text.length : Int)] = g at eg
        by_cases h3 : r - (l[k].text.length : Int) < 0
        · rw [if_pos h3] at eg hk4
          subst eg
          try simp (disch := omega) only [go_sem, Nat.reduceEqDiff, Nat.reduceAdd, Nat.reduceSub, Int.reduceAdd, Int.reduceSub, Int.reduceToNat]
          refine den_fin [some (0, none)] (by (try simp (disch := omega) only [go_sem, Nat.reduceEqDiff, Nat.reduceAdd, Nat.reduceSub, Int.reduceAdd, Int.reduceSub, Int.reduceToNat]) <;> omega) _ (by simp only [go_sem]; rfl) (by rfl) (by rfl) ?_
          simp (disch := omega) only [go_sem, Nat.reduceEqDiff, Nat.reduceAdd, Nat.reduceSub, Int.reduceAdd, Int.reduceSub, Int.reduceToNat]
          omega
        · rw [if_neg h3] at eg hk4
          subst eg
          try simp (disch := omega) only [go_sem, Nat.reduceEqDiff, Nat.reduceAdd, Nat.reduceSub, Int.reduceAdd, Int.reduceSub, Int.reduceToNat]
          refine ⟨by (try simp (disch := omega) only [go_sem, Nat.reduceEqDiff, Nat.reduceAdd, Nat.reduceSub, Int.reduceAdd, Int.reduceSub, Int.reduceToNat]) <;> omega, hN _ (k + 1, r - (l[k].text.length : Int)) [some (0, none)] (by (try dsimp only); exact ⟨by omega, by omega, by omega, hk4⟩) (by (try dsimp only); omega) (weak_mk (by rfl) (by rfl) ?_)⟩
          try simp (disch := omega) only [go_sem, Nat.reduceEqDiff, Nat.reduceAdd, Nat.reduceSub, Int.reduceAdd, Int.reduceSub, Int.reduceToNat]
      · refine den_fin [some (0, none)] (by (try simp (disch := omega) only [go_sem, Nat.reduceEqDiff, Nat.reduceAdd, Nat.reduceSub, Int.reduceAdd, Int.reduceSub, Int.reduceToNat]) <;> omega) _ (by simp only [go_sem]; rfl) (by rfl) (by rfl) ?_
        simp (disch := omega) only [go_sem, Nat.reduceEqDiff, Nat.reduceAdd, Nat.reduceSub, Int.reduceAdd, Int.reduceSub, Int.reduceToNat]
        rw [List.drop_eq_nil_of_le (by omega)] at hk4
        exact hk4.symm
def szLSub (l : List SubD) : List Int := [(l.length : Int)]
theorem szLSub_nn (l : List SubD) : ∀ n ∈ szLSub l, 0 ≤ n := by
  intro n hn
  simp only [szLSub, List.mem_cons, List.mem_map, List.not_mem_nil, or_false] at hn
  omega
theorem laws_toSubS (l : List SubD) (hl : l.length ≤ 1048576) : CallA Tryz.prog 55 [.sc (.sl 0 0 l.length)] [some ⟨l.map SubD.cs, 10, 148, false, true⟩] (.sc (.sl 1 0 l.length)) [some ⟨l.map SubD.cs, 10, 148, false, true⟩, some ⟨l.map SubD.cs, 10, 99, true, true⟩] := by
  refine callA_of Tryz.func55 (by kernel_rfl) rfl fun E hE => run_den 400 ?_
  simp (disch := omega) only [Tryz.ntmps55, Tryz.results55, go_sem, Nat.reduceEqDiff, Nat.reduceAdd, Nat.reduceSub, Int.reduceAdd, Int.reduceSub, Int.reduceToNat]
  refine den_lp 1 hE (fun s (k : Nat) => s.at [5, 6, 7, 8, 9, 10, 11, 12, 13, 14, 15, 16, 17, 18, 19, 20, 21] [(4, .sc (.int .i64 (k : Nat)))] ([some ⟨l.map SubD.cs, 10, 148, false, true⟩, some ⟨(l.take k).map SubD.cs ++ List.replicate (l.length - k) [.int .i64 0, .int .i64 0, .int .i64 0, .int .i64 0, .bo false, .int .i64 0, .int .i64 0, .int .i64 0, .int .i64 0, .int .i64 0], 10, 99, true, true⟩])) (fun (k : Nat) => k ≤ l.length) (fun (k : Nat) => l.length - k) 0 [some (0, none), some (1, none)] (by (try simp (disch := omega) only [go_sem, Nat.reduceEqDiff, Nat.reduceAdd, Nat.reduceSub, Int.reduceAdd, Int.reduceSub, Int.reduceToNat]) <;> omega) (Nat.zero_le _) (weak_mk (by rfl) (by rfl) ?_) fun k hk N hN => ?_
  · try simp (disch := omega) only [go_sem, Nat.reduceEqDiff, Nat.reduceAdd, Nat.reduceSub, Int.reduceAdd, Int.reduceSub, Int.reduceToNat]
    try simp
  · refine run_den 400 ?_
    try simp (disch := omega) only [go_sem, Nat.reduceEqDiff, Nat.reduceAdd, Nat.reduceSub, Int.reduceAdd, Int.reduceSub, Int.reduceToNat]
    split <;> rename_i h <;> (try simp only [beq_true, beq_false, Bool.not_eq_true', Bool.not_eq_false'] at h) <;> simp (disch := omega) only [go_sem, Nat.reduceEqDiff, Nat.reduceAdd, Nat.reduceSub, Int.reduceAdd, Int.reduceSub, Int.reduceToNat, h] <;> (try simp only [decide_eq_true_eq, decide_eq_false_iff_not, beq_iff_eq, beq_eq_false_iff_ne, bne_iff_ne, bne_eq_false_iff_eq, ne_eq, Decidable.not_not, Bool.and_eq_true, Bool.and_eq_false_iff, Bool.or_eq_true, Bool.or_eq_false_iff, Int.ofNat_lt, Int.ofNat_le, Bool.not_eq_eq_eq_not, Bool.not_true, Bool.not_false] at h) <;> try simp (disch := omega) only [go_sem, Nat.reduceEqDiff, Nat.reduceAdd, Nat.reduceSub, Int.reduceAdd, Int.reduceSub, Int.reduceToNat]
    · try simp (disch := omega) only [go_sem, Nat.reduceEqDiff, Nat.reduceAdd, Nat.reduceSub, Int.reduceAdd, Int.reduceSub, Int.reduceToNat, map_rep_get h, map_rep_len]
      refine den_call (by (try simp (disch := omega) only [go_sem, Nat.reduceEqDiff, Nat.reduceAdd, Nat.reduceSub, Int.reduceAdd, Int.reduceSub, Int.reduceToNat]) <;> omega) (laws_toSub l[k]) [] (by simp only [go_sem]; repeat' first | rfl | constructor) (by rfl) (run_den 400 ?_)
      simp (disch := omega) only [go_sem, Nat.reduceEqDiff, Nat.reduceAdd, Nat.reduceSub, Int.reduceAdd, Int.reduceSub, Int.reduceToNat]
      try simp (disch := omega) only [go_sem, Nat.reduceEqDiff, Nat.reduceAdd, Nat.reduceSub, Int.reduceAdd, Int.reduceSub, Int.reduceToNat, map_rep_get h, map_rep_len]
      refine ⟨by (try simp (disch := omega) only [go_sem, Nat.reduceEqDiff, Nat.reduceAdd, Nat.reduceSub, Int.reduceAdd, Int.reduceSub, Int.reduceToNat, map_rep_len]) <;> omega, hN _ (k + 1) [some (0, none), some (1, none)] (by (try dsimp only); exact h) (by (try dsimp only); omega) (weak_mk (by rfl) (by rfl) ?_)⟩
      try simp (disch := omega) only [go_sem, Nat.reduceEqDiff, Nat.reduceAdd, Nat.reduceSub, Int.reduceAdd, Int.reduceSub, Int.reduceToNat]
      first | exact map_set_app h rfl | (rw [map_set_app h rfl])
    · have hk : k = l.length := by omega
      subst hk
      refine den_fin [some (0, none), some (1, none)] (by (try simp (disch := omega) only [go_sem, Nat.reduceEqDiff, Nat.reduceAdd, Nat.reduceSub, Int.reduceAdd, Int.reduceSub, Int.reduceToNat]) <;> omega) _ (by simp only [go_sem]; rfl) (by rfl) (by rfl) ?_
      simp (disch := omega) only [go_sem, Nat.reduceEqDiff, Nat.reduceAdd, Nat.reduceSub, Int.reduceAdd, Int.reduceSub, Int.reduceToNat]
      rw [map_rep_done]
theorem laws_eqSubS (l : List SubD) (hl : l.length ≤ 4611686018427387904) : CallA Tryz.prog 80 [.sc (.sl 0 0 l.length), .sc (.sl 1 0 l.length)] [some ⟨l.map SubD.cs, 10, 99, false, true⟩, some ⟨l.map SubD.cs, 10, 99, false, true⟩] (.sc (.bo true)) [some ⟨l.map SubD.cs, 10, 99, false, true⟩, some ⟨l.map SubD.cs, 10, 99, false, true⟩] := by
  refine callA_of Tryz.func80 (by kernel_rfl) rfl fun E hE => run_den 400 ?_
  simp (disch := omega) only [Tryz.ntmps80, Tryz.results80, go_sem, Nat.reduceEqDiff, Nat.reduceAdd, Nat.reduceSub, Int.reduceAdd, Int.reduceSub, Int.reduceToNat]
  refine den_lp 2 hE (fun s (k : Nat) => s.at [4, 6, 7, 8, 9, 10, 11, 12, 13, 14, 15, 16, 17, 18, 19, 20, 21, 22, 23, 24, 25, 26] [(5, .sc (.int .i64 (k : Nat)))] (s.hp)) (fun (k : Nat) => k ≤ l.length) (fun (k : Nat) => l.length - k) 0 [some (0, none), some (1, none)] (by (try simp (disch := omega) only [go_sem, Nat.reduceEqDiff, Nat.reduceAdd, Nat.reduceSub, Int.reduceAdd, Int.reduceSub, Int.reduceToNat]) <;> omega) (Nat.zero_le _) (weak_mk (by rfl) (by rfl) ?_) fun k hk N hN => ?_
  · try simp (disch := omega) only [go_sem, Nat.reduceEqDiff, Nat.reduceAdd, Nat.reduceSub, Int.reduceAdd, Int.reduceSub, Int.reduceToNat]
  · refine run_den 400 ?_
    try simp (disch := omega) only [go_sem, Nat.reduceEqDiff, Nat.reduceAdd, Nat.reduceSub, Int.reduceAdd, Int.reduceSub, Int.reduceToNat]
    split <;> rename_i h <;> (try simp only [beq_true, beq_false, Bool.not_eq_true', Bool.not_eq_false'] at h) <;> simp (disch := omega) only [go_sem, Nat.reduceEqDiff, Nat.reduceAdd, Nat.reduceSub, Int.reduceAdd, Int.reduceSub, Int.reduceToNat, h] <;> (try simp only [decide_eq_true_eq, decide_eq_false_iff_not, beq_iff_eq, beq_eq_false_iff_ne, bne_iff_ne, bne_eq_false_iff_eq, ne_eq, Decidable.not_not, Bool.and_eq_true, Bool.and_eq_false_iff, Bool.or_eq_true, Bool.or_eq_false_iff, Int.ofNat_lt, Int.ofNat_le, Bool.not_eq_eq_eq_not, Bool.not_true, Bool.not_false] at h) <;> try simp (disch := omega) only [go_sem, Nat.reduceEqDiff, Nat.reduceAdd, Nat.reduceSub, Int.reduceAdd, Int.reduceSub, Int.reduceToNat]
    · refine den_draw1 [0, 1, 2, 3, 4, 5, 6, 7, 8, 9] (by kernel_rfl) (trivial) (by kernel_rfl) (runD_den 400 ?_)
      simp (disch := omega) only [go_sem, Nat.reduceEqDiff, Nat.reduceAdd, Nat.reduceSub, Int.reduceAdd, Int.reduceSub, Int.reduceToNat]
      refine den_callD (by (try simp (disch := omega) only [go_sem, Nat.reduceEqDiff, Nat.reduceAdd, Nat.reduceSub, Int.reduceAdd, Int.reduceSub, Int.reduceToNat]) <;> omega) (laws_eqSub l[k]) [] (by simp only [go_sem]; repeat' first | rfl | constructor) (by rfl) (by rfl) (runD_den 400 ?_)
      simp (disch := omega) only [go_sem, Nat.reduceEqDiff, Nat.reduceAdd, Nat.reduceSub, Int.reduceAdd, Int.reduceSub, Int.reduceToNat]
      refine ⟨by (try simp (disch := omega) only [go_sem, Nat.reduceEqDiff, Nat.reduceAdd, Nat.reduceSub, Int.reduceAdd, Int.reduceSub, Int.reduceToNat]) <;> omega, run_den 400 ?_⟩
      try simp (disch := omega) only [go_sem, Nat.reduceEqDiff, Nat.reduceAdd, Nat.reduceSub, Int.reduceAdd, Int.reduceSub, Int.reduceToNat]
      refine ⟨by (try simp (disch := omega) only [go_sem, Nat.reduceEqDiff, Nat.reduceAdd, Nat.reduceSub, Int.reduceAdd, Int.reduceSub, Int.reduceToNat]) <;> omega, hN _ (k + 1) [some (0, none), some (1, none)] (by (try dsimp only); exact h) (by (try dsimp only); omega) (weak_mk (by rfl) (by rfl) ?_)⟩
      try simp (disch := omega) only [go_sem, Nat.reduceEqDiff, Nat.reduceAdd, Nat.reduceSub, Int.reduceAdd, Int.reduceSub, Int.reduceToNat]
    · refine den_fin [some (0, none), some (1, none)] (by (try simp (disch := omega) only [go_sem, Nat.reduceEqDiff, Nat.reduceAdd, Nat.reduceSub, Int.reduceAdd, Int.reduceSub, Int.reduceToNat]) <;> omega) _ (by simp only [go_sem]; rfl) (by rfl) (by rfl) ?_
      simp (disch := omega) only [go_sem, Nat.reduceEqDiff, Nat.reduceAdd, Nat.reduceSub, Int.reduceAdd, Int.reduceSub, Int.reduceToNat]
theorem laws_szSubS (l : List SubD) (m : Int) (hl : l.length ≤ 9223372036854775807) (h0 : 0 ≤ m) (h : m ≤ 1048576) : CallA Tryz.prog 32 [.sc (.sl 0 0 l.length), .sc (.int .i64 m)] [some ⟨l.map SubD.cs, 10, 148, false, true⟩] (.sc (.int .i64 (szGo m (szLSub l)))) [some ⟨l.map SubD.cs, 10, 148, false, true⟩] := by
  obtain ⟨R, hR⟩ : ∃ R, R = szGo m (szLSub l) := ⟨_, rfl⟩
  rw [← hR]
  simp only [szGo, szLSub] at hR
  refine callA_of Tryz.func32 (by kernel_rfl) rfl fun E hE => run_den 400 ?_
  simp (disch := omega) only [Tryz.ntmps32, Tryz.results32, go_sem, Nat.reduceEqDiff, Nat.reduceAdd, Nat.reduceSub, Int.reduceAdd, Int.reduceSub, Int.reduceToNat]
  split <;> rename_i h1 <;> (try simp only [beq_true, beq_false, Bool.not_eq_true', Bool.not_eq_false'] at h1) <;> simp (disch := omega) only [go_sem, Nat.reduceEqDiff, Nat.reduceAdd, Nat.reduceSub, Int.reduceAdd, Int.reduceSub, Int.reduceToNat, h1] <;> (try simp only [decide_eq_true_eq, decide_eq_false_iff_not, beq_iff_eq, beq_eq_false_iff_ne, bne_iff_ne, bne_eq_false_iff_eq, ne_eq, Decidable.not_not, Bool.and_eq_true, Bool.and_eq_false_iff, Bool.or_eq_true, Bool.or_eq_false_iff, Int.ofNat_lt, Int.ofNat_le, Bool.not_eq_eq_eq_not, Bool.not_true, Bool.not_false] at h1) <;> try simp (disch := omega) only [go_sem, Nat.reduceEqDiff, Nat.reduceAdd, Nat.reduceSub, Int.reduceAdd, Int.reduceSub, Int.reduceToNat]
  · refine den_fin [some (0, none)] (by (try simp (disch := omega) only [go_sem, Nat.reduceEqDiff, Nat.reduceAdd, Nat.reduceSub, Int.reduceAdd, Int.reduceSub, Int.reduceToNat]) <;> omega) _ (by simp only [go_sem]; rfl) (by rfl) (by rfl) ?_
    simp (disch := omega) only [go_sem, Nat.reduceEqDiff, Nat.reduceAdd, Nat.reduceSub, Int.reduceAdd, Int.reduceSub, Int.reduceToNat]
    omega
  · refine den_fin [some (0, none)] (by (try simp (disch := omega) only [go_sem, Nat.reduceEqDiff, Nat.reduceAdd, Nat.reduceSub, Int.reduceAdd, Int.reduceSub, Int.reduceToNat]) <;> omega) _ (by simp only [go_sem]; rfl) (by rfl) (by rfl) ?_
    simp (disch := omega) only [go_sem, Nat.reduceEqDiff, Nat.reduceAdd, Nat.reduceSub, Int.reduceAdd, Int.reduceSub, Int.reduceToNat]
    omega
def szLPiece (l : List PieceD) : List Int := (l.length : Int) :: l.map fun y => (y.text.length : Int)
theorem szLPiece_nn (l : List PieceD) : ∀ n ∈ szLPiece l, 0 ≤ n := by
  intro n hn
  simp only [szLPiece, List.mem_cons, List.mem_map, List.not_mem_nil, or_false] at hn
  rcases hn with rfl | ⟨y, _, rfl⟩ <;> omega
theorem laws_toPieceS (l : List PieceD) (hl : l.length ≤ 1048576) : CallA Tryz.prog 97 [.sc (.sl 0 0 l.length)] [some ⟨l.map PieceD.cs, 2, 161, false, true⟩] (.sc (.sl 1 0 l.length)) [some ⟨l.map PieceD.cs, 2, 161, false, true⟩, some ⟨l.map PieceD.cs, 2, 139, true, true⟩] := by
  refine callA_of Tryz.func97 (by kernel_rfl) rfl fun E hE => run_den 400 ?_
  simp (disch := omega) only [Tryz.ntmps97, Tryz.results97, go_sem, Nat.reduceEqDiff, Nat.reduceAdd, Nat.reduceSub, Int.reduceAdd, Int.reduceSub, Int.reduceToNat]
  refine den_lp 1 hE (fun s (k : Nat) => s.at [5, 6, 7, 8, 9, 10, 11, 12, 13, 14, 15, 16, 17, 18, 19, 20, 21] [(4, .sc (.int .i64 (k : Nat)))] ([some ⟨l.map PieceD.cs, 2, 161, false, true⟩, some ⟨(l.take k).map PieceD.cs ++ List.replicate (l.length - k) [.int .i64 0, .st []], 2, 139, true, true⟩])) (fun (k : Nat) => k ≤ l.length) (fun (k : Nat) => l.length - k) 0 [some (0, none), some (1, none)] (by (try simp (disch := omega) only [go_sem, Nat.reduceEqDiff, Nat.reduceAdd, Nat.reduceSub, Int.reduceAdd, Int.reduceSub, Int.reduceToNat]) <;> omega) (Nat.zero_le _) (weak_mk (by rfl) (by rfl) ?_) fun k hk N hN => ?_
  · try simp (disch := omega) only [go_sem, Nat.reduceEqDiff, Nat.reduceAdd, Nat.reduceSub, Int.reduceAdd, Int.reduceSub, Int.reduceToNat]
    try simp
  · refine run_den 400 ?_
    try simp (disch := omega) only [go_sem, Nat.reduceEqDiff, Nat.reduceAdd, Nat.reduceSub, Int.reduceAdd, Int.reduceSub, Int.reduceToNat]
    split <;> rename_i h <;> (try simp only [beq_true, beq_false, Bool.not_eq_true', Bool.not_eq_false'] at h) <;> simp (disch := omega) only [go_sem, Nat.reduceEqDiff, Nat.reduceAdd, Nat.reduceSub, Int.reduceAdd, Int.reduceSub, Int.reduceToNat, h] <;> (try simp only [decide_eq_true_eq, decide_eq_false_iff_not, beq_iff_eq, beq_eq_false_iff_ne, bne_iff_ne, bne_eq_false_iff_eq, ne_eq, Decidable.not_not, Bool.and_eq_true, Bool.and_eq_false_iff, Bool.or_eq_true, Bool.or_eq_false_iff, Int.ofNat_lt, Int.ofNat_le, Bool.not_eq_eq_eq_not, Bool.not_true, Bool.not_false] at h) <;> try simp (disch := omega) only [go_sem, Nat.reduceEqDiff, Nat.reduceAdd, Nat.reduceSub, Int.reduceAdd, Int.reduceSub, Int.reduceToNat]
    · try simp (disch := omega) only [go_sem, Nat.reduceEqDiff, Nat.reduceAdd, Nat.reduceSub, Int.reduceAdd, Int.reduceSub, Int.reduceToNat, map_rep_get h, map_rep_len]
      refine den_call (by (try simp (disch := omega) only [go_sem, Nat.reduceEqDiff, Nat.reduceAdd, Nat.reduceSub, Int.reduceAdd, Int.reduceSub, Int.reduceToNat]) <;> omega) (laws_toPiece l[k]) [] (by simp only [go_sem]; repeat' first | rfl | constructor) (by rfl) (run_den 400 ?_)
      simp (disch := omega) only [go_sem, Nat.reduceEqDiff, Nat.reduceAdd, Nat.reduceSub, Int.reduceAdd, Int.reduceSub, Int.reduceToNat]
      try simp (disch := omega) only [go_sem, Nat.reduceEqDiff, Nat.reduceAdd, Nat.reduceSub, Int.reduceAdd, Int.reduceSub, Int.reduceToNat, map_rep_get h, map_rep_len]
      refine ⟨by (try simp (disch := omega) only [go_sem, Nat.reduceEqDiff, Nat.reduceAdd, Nat.reduceSub, Int.reduceAdd, Int.reduceSub, Int.reduceToNat, map_rep_len]) <;> omega, hN _ (k + 1) [some (0, none), some (1, none)] (by (try dsimp only); exact h) (by (try dsimp only); omega) (weak_mk (by rfl) (by rfl) ?_)⟩
      try simp (disch := omega) only [go_sem, Nat.reduceEqDiff, Nat.reduceAdd, Nat.reduceSub, Int.reduceAdd, Int.reduceSub, Int.reduceToNat]
      first | exact map_set_app h rfl | (rw [map_set_app h rfl])
    · have hk : k = l.length := by omega
      subst hk
      refine den_fin [some (0, none), some (1, none)] (by (try simp (disch := omega) only [go_sem, Nat.reduceEqDiff, Nat.reduceAdd, Nat.reduceSub, Int.reduceAdd, Int.reduceSub, Int.reduceToNat]) <;> omega) _ (by simp only [go_sem]; rfl) (by rfl) (by rfl) ?_
      simp (disch := omega) only [go_sem, Nat.reduceEqDiff, Nat.reduceAdd, Nat.reduceSub, Int.reduceAdd, Int.reduceSub, Int.reduceToNat]
      rw [map_rep_done]
theorem laws_eqPieceS (l : List PieceD) (hl : l.length ≤ 4611686018427387904) : CallA Tryz.prog 110 [.sc (.sl 0 0 l.length), .sc (.sl 1 0 l.length)] [some ⟨l.map PieceD.cs, 2, 139, false, true⟩, some ⟨l.map PieceD.cs, 2, 139, false, true⟩] (.sc (.bo true)) [some ⟨l.map PieceD.cs, 2, 139, false, true⟩, some ⟨l.map PieceD.cs, 2, 139, false, true⟩] := by
  refine callA_of Tryz.func110 (by kernel_rfl) rfl fun E hE => run_den 400 ?_
  simp (disch := omega) only [Tryz.ntmps110, Tryz.results110, go_sem, Nat.reduceEqDiff, Nat.reduceAdd, Nat.reduceSub, Int.reduceAdd, Int.reduceSub, Int.reduceToNat]
  refine den_lp 2 hE (fun s (k : Nat) => s.at [4, 6, 7, 8, 9, 10, 11, 12, 13, 14, 15, 16, 17, 18, 19, 20, 21, 22, 23, 24, 25, 26] [(5, .sc (.int .i64 (k : Nat)))] (s.hp)) (fun (k : Nat) => k ≤ l.length) (fun (k : Nat) => l.length - k) 0 [some (0, none), some (1, none)] (by (try simp (disch := omega) only [go_sem, Nat.reduceEqDiff, Nat.reduceAdd, Nat.reduceSub, Int.reduceAdd, Int.reduceSub, Int.reduceToNat]) <;> omega) (Nat.zero_le _) (weak_mk (by rfl) (by rfl) ?_) fun k hk N hN => ?_
  · try simp (disch := omega) only [go_sem, Nat.reduceEqDiff, Nat.reduceAdd, Nat.reduceSub, Int.reduceAdd, Int.reduceSub, Int.reduceToNat]
  · refine run_den 400 ?_
    try simp (disch := omega) only [go_sem, Nat.reduceEqDiff, Nat.reduceAdd, Nat.reduceSub, Int.reduceAdd, Int.reduceSub, Int.reduceToNat]
    split <;> rename_i h <;> (try simp only [beq_true, beq_false, Bool.not_eq_true', Bool.not_eq_false'] at h) <;> simp (disch := omega) only [go_sem, Nat.reduceEqDiff, Nat.reduceAdd, Nat.reduceSub, Int.reduceAdd, Int.reduceSub, Int.reduceToNat, h] <;> (try simp only [decide_eq_true_eq, decide_eq_false_iff_not, beq_iff_eq, beq_eq_false_iff_ne, bne_iff_ne, bne_eq_false_iff_eq, ne_eq, Decidable.not_not, Bool.and_eq_true, Bool.and_eq_false_iff, Bool.or_eq_true, Bool.or_eq_false_iff, Int.ofNat_lt, Int.ofNat_le, Bool.not_eq_eq_eq_not, Bool.not_true, Bool.not_false] at h) <;> try simp (disch := omega) only [go_sem, Nat.reduceEqDiff, Nat.reduceAdd, Nat.reduceSub, Int.reduceAdd, Int.reduceSub, Int.reduceToNat]
    · refine den_draw1 [0, 1, 2, 3, 4, 5, 6, 7, 8, 9] (by kernel_rfl) (trivial) (by kernel_rfl) (runD_den 400 ?_)
      simp (disch := omega) only [go_sem, Nat.reduceEqDiff, Nat.reduceAdd, Nat.reduceSub, Int.reduceAdd, Int.reduceSub, Int.reduceToNat]
      refine den_callD (by (try simp (disch := omega) only [go_sem, Nat.reduceEqDiff, Nat.reduceAdd, Nat.reduceSub, Int.reduceAdd, Int.reduceSub, Int.reduceToNat]) <;> omega) (laws_eqPiece l[k]) [] (by simp only [go_sem]; repeat' first | rfl | constructor) (by rfl) (by rfl) (runD_den 400 ?_)
      simp (disch := omega) only [go_sem, Nat.reduceEqDiff, Nat.reduceAdd, Nat.reduceSub, Int.reduceAdd, Int.reduceSub, Int.reduceToNat]
      refine ⟨by (try simp (disch := omega) only [go_sem, Nat.reduceEqDiff, Nat.reduceAdd, Nat.reduceSub, Int.reduceAdd, Int.reduceSub, Int.reduceToNat]) <;> omega, run_den 400 ?_⟩
      try simp (disch := omega) only [go_sem, Nat.reduceEqDiff, Nat.reduceAdd, Nat.reduceSub, Int.reduceAdd, Int.reduceSub, Int.reduceToNat]
      refine ⟨by (try simp (disch := omega) only [go_sem, Nat.reduceEqDiff, Nat.reduceAdd, Nat.reduceSub, Int.reduceAdd, Int.reduceSub, Int.reduceToNat]) <;> omega, hN _ (k + 1) [some (0, none), some (1, none)] (by (try dsimp only); exact h) (by (try dsimp only); omega) (weak_mk (by rfl) (by rfl) ?_)⟩
      try simp (disch := omega) only [go_sem, Nat.reduceEqDiff, Nat.reduceAdd, Nat.reduceSub, Int.reduceAdd, Int.reduceSub, Int.reduceToNat]
    · refine den_fin [some (0, none), some (1, none)] (by (try simp (disch := omega) only [go_sem, Nat.reduceEqDiff, Nat.reduceAdd, Nat.reduceSub, Int.reduceAdd, Int.reduceSub, Int.reduceToNat]) <;> omega) _ (by simp only [go_sem]; rfl) (by rfl) (by rfl) ?_
      simp (disch := omega) only [go_sem, Nat.reduceEqDiff, Nat.reduceAdd, Nat.reduceSub, Int.reduceAdd, Int.reduceSub, Int.reduceToNat]
theorem laws_szPieceS (l : List PieceD) (m : Int) (hw : ∀ y ∈ l, y.wf) (hl : l.length ≤ 9223372036854775807) (h0 : 0 ≤ m) (h : m ≤ 1048576) : CallA Tryz.prog 87 [.sc (.sl 0 0 l.length), .sc (.int .i64 m)] [some ⟨l.map PieceD.cs, 2, 161, false, true⟩] (.sc (.int .i64 (szGo m (szLPiece l)))) [some ⟨l.map PieceD.cs, 2, 161, false, true⟩] := by
  obtain ⟨R, hR⟩ : ∃ R, R = szGo m (szLPiece l) := ⟨_, rfl⟩
  rw [← hR]
  simp only [szGo, szLPiece] at hR
  refine callA_of Tryz.func87 (by kernel_rfl) rfl fun E hE => run_den 400 ?_
  simp (disch := omega) only [Tryz.ntmps87, Tryz.results87, go_sem, Nat.reduceEqDiff, Nat.reduceAdd, Nat.reduceSub, Int.reduceAdd, Int.reduceSub, Int.reduceToNat]
  split <;> rename_i h1 <;> (try simp only [beq_true, beq_false, Bool.not_eq_true', Bool.not_eq_false'] at h1) <;> simp (disch := omega) only [go_sem, Nat.reduceEqDiff, Nat.reduceAdd, Nat.reduceSub, Int.reduceAdd, Int.reduceSub, Int.reduceToNat, h1] <;> (try simp only [decide_eq_true_eq, decide_eq_false_iff_not, beq_iff_eq, beq_eq_false_iff_ne, bne_iff_ne, bne_eq_false_iff_eq, ne_eq, Decidable.not_not, Bool.and_eq_true, Bool.and_eq_false_iff, Bool.or_eq_true, Bool.or_eq_false_iff, Int.ofNat_lt, Int.ofNat_le, Bool.not_eq_eq_eq_not, Bool.not_true, Bool.not_false] at h1) <;> try simp (disch := omega) only [go_sem, Nat.reduceEqDiff, Nat.reduceAdd, Nat.reduceSub, Int.reduceAdd, Int.reduceSub, Int.reduceToNat]
  · refine den_fin [some (0, none)] (by (try simp (disch := omega) only [go_sem, Nat.reduceEqDiff, Nat.reduceAdd, Nat.reduceSub, Int.reduceAdd, Int.reduceSub, Int.reduceToNat]) <;> omega) _ (by simp only [go_sem]; rfl) (by rfl) (by rfl) ?_
    simp (disch := omega) only [go_sem, Nat.reduceEqDiff, Nat.reduceAdd, Nat.reduceSub, Int.reduceAdd, Int.reduceSub, Int.reduceToNat]
    omega
  · rw [if_neg (by omega)] at hR
    have hs : R = szGo (m - l.length) ((l.drop 0).map fun y => (y.text.length : Int)) := hR
    refine den_lp 1 hE (fun s (x : Nat × Int) => s.at [4, 6, 7, 8, 9, 10, 11, 12, 13, 14, 15, 16, 17, 18, 19, 20, 21, 22, 23, 24, 25] [(5, .sc (.int .i64 (x.1 : Nat))), (1, .sc (.int .i64 x.2))] (s.hp)) (fun (x : Nat × Int) => x.1 ≤ l.length ∧ 0 ≤ x.2 ∧ x.2 ≤ 1048576 ∧ R = szGo x.2 ((l.drop x.1).map fun y => (y.text.length : Int))) (fun (x : Nat × Int) => l.length - x.1) (0, m - l.length) [some (0, none)] (by (try simp (disch := omega) only [go_sem, Nat.reduceEqDiff, Nat.reduceAdd, Nat.reduceSub, Int.reduceAdd, Int.reduceSub, Int.reduceToNat]) <;> omega) (⟨Nat.zero_le _, by omega, by omega, hs⟩) (weak_mk (by rfl) (by rfl) ?_) fun x hx N hN => ?_
    · try simp (disch := omega) only [go_sem, Nat.reduceEqDiff, Nat.reduceAdd, Nat.reduceSub, Int.reduceAdd, Int.reduceSub, Int.reduceToNat]
    · obtain ⟨k, r⟩ := x
      obtain ⟨hk1, hk2, hk3, hk4⟩ := hx
      dsimp only at hk1 hk2 hk3 hk4
      refine run_den 400 ?_
      try simp (disch := omega) only [go_sem, Nat.reduceEqDiff, Nat.reduceAdd, Nat.reduceSub, Int.reduceAdd, Int.reduceSub, Int.reduceToNat]
      split <;> rename_i h2 <;> (try simp only [beq_true, beq_false, Bool.not_eq_true', Bool.not_eq_false'] at h2) <;> simp (disch := omega) only [go_sem, Nat.reduceEqDiff, Nat.reduceAdd, Nat.reduceSub, Int.reduceAdd, Int.reduceSub, Int.reduceToNat, h2] <;> (try simp only [decide_eq_true_eq, decide_eq_false_iff_not, beq_iff_eq, beq_eq_false_iff_ne, bne_iff_ne, bne_eq_false_iff_eq, ne_eq, Decidable.not_not, Bool.and_eq_true, Bool.and_eq_false_iff, Bool.or_eq_true, Bool.or_eq_false_iff, Int.ofNat_lt, Int.ofNat_le, Bool.not_eq_eq_eq_not, Bool.not_true, Bool.not_false] at h2) <;> try simp (disch := omega) only [go_sem, Nat.reduceEqDiff, Nat.reduceAdd, Nat.reduceSub, Int.reduceAdd, Int.reduceSub, Int.reduceToNat]
      · rw [szGo_step h2] at hk4
        have hwf : l[k].wf := hw _ (List.getElem_mem h2)
        have hlx : l[k].text.length ≤ 9223372036854775807 := (fun h => h.2) hwf
        refine den_call (by (try simp (disch := omega) only [go_sem, Nat.reduceEqDiff, Nat.reduceAdd, Nat.reduceSub, Int.reduceAdd, Int.reduceSub, Int.reduceToNat]) <;> omega) (laws_szPiece l[k] r hlx hk2 hk3) [] (by simp only [go_sem]; repeat' first | rfl | constructor) (by rfl) (run_den 400 ?_)
        simp (disch := omega) only [go_sem, Nat.reduceEqDiff, Nat.reduceAdd, Nat.reduceSub, Int.reduceAdd, Int.reduceSub, Int.reduceToNat]
        have eg : szGo r [(l[k].text.length : Int)] = (if r - (l[k].text.length : Int) < 0 then -1 else r - (l[k].text.length : Int)) := rfl
        generalize szGo r [(l[k].text.length : Int)] = g at eg
        by_cases h3 : r - (l[k].text.length : Int) < 0
        · rw [if_pos h3] at eg hk4
          subst eg
          try simp (disch := omega) only [go_sem, Nat.reduceEqDiff, Nat.reduceAdd, Nat.reduceSub, Int.reduceAdd, Int.reduceSub, Int.reduceToNat]
          refine den_fin [some (0, none)] (by (try simp (disch := omega) only [go_sem, Nat.reduceEqDiff, Nat.reduceAdd, Nat.reduceSub, Int.reduceAdd, Int.reduceSub, Int.reduceToNat]) <;> omega) _ (by simp only [go_sem]; rfl) (by rfl) (by rfl) ?_
          simp (disch := omega) only [go_sem, Nat.reduceEqDiff, Nat.reduceAdd, Nat.reduceSub, Int.reduceAdd, Int.reduceSub, Int.reduceToNat]
          omega
        · rw [if_neg h3] at eg hk4
          subst eg
          try simp (disch := omega) only [go_sem, Nat.reduceEqDiff, Nat.reduceAdd, Nat.reduceSub, Int.reduceAdd, Int.reduceSub, Int.reduceToNat]
          refine ⟨by (try simp (disch := omega) only [go_sem, Nat.reduceEqDiff, Nat.reduceAdd, Nat.reduceSub, Int.reduceAdd, Int.reduceSub, Int.reduceToNat]) <;> omega, hN _ (k + 1, r - (l[k].text.length : Int)) [some (0, none)] (by (try dsimp only); exact ⟨by omega, by omega, by omega, hk4⟩) (by (try dsimp only); omega) (weak_mk (by rfl) (by rfl) ?_)⟩
          try simp (disch := omega) only [go_sem, Nat.reduceEqDiff, Nat.reduceAdd, Nat.reduceSub, Int.reduceAdd, Int.reduceSub, Int.reduceToNat]
      · refine den_fin [some (0, none)] (by (try simp (disch := omega) only [go_sem, Nat.reduceEqDiff, Nat.reduceAdd, Nat.reduceSub, Int.reduceAdd, Int.reduceSub, Int.reduceToNat]) <;> omega) _ (by simp only [go_sem]; rfl) (by rfl) (by rfl) ?_
        simp (disch := omega) only [go_sem, Nat.reduceEqDiff, Nat.reduceAdd, Nat.reduceSub, Int.reduceAdd, Int.reduceSub, Int.reduceToNat]
        rw [List.drop_eq_nil_of_le (by omega)] at hk4
        exact hk4.symm
def szLAct (l : List ActD) : List Int := (l.length : Int) :: l.map fun y => (y.text.length : Int)
theorem szLAct_nn (l : List ActD) : ∀ n ∈ szLAct l, 0 ≤ n := by
  intro n hn
  simp only [szLAct, List.mem_cons, List.mem_map, List.not_mem_nil, or_false] at hn
  rcases hn with rfl | ⟨y, _, rfl⟩ <;> omega
end Go.Proofs.YtoghbjbfldlfpaaGreat
