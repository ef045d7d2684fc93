import Derived.Test.YtoghbjbfldlfpaaVHd
namespace Go.Proofs.Ytoghbjbfldlfpaa
open Go.RowKit
set_option linter.unusedVariables false
set_option linter.unusedSimpArgs false
set_option maxRecDepth 20000

def markT (k : Int) : List UInt8 := if k ≤ 0 then [109, 48] else 109 :: decGo k.toNat []
theorem decGo_ten (n : Nat) (acc : List UInt8) (h : 0 < n) : decGo n acc = if n / 10 = 0 then UInt8.ofNat (48 + n % 10) :: acc else decGo (n / 10) (UInt8.ofNat (48 + n % 10) :: acc) := by
  rw [decGo]
  by_cases h1 : n < 10
  · rw [dif_pos h1, if_pos (by omega), Nat.mod_eq_of_lt h1]
  · rw [dif_neg h1, if_neg (by omega)]
theorem laws_markText (k : Int) (hk : k ≤ 4611686018427387904) : CallA Try.prog 143 [.sc (.int .i64 k)] [] (.sc (.st (markT k))) [] := by
  refine callA_of Try.func143 (by kernel_rfl) rfl fun E hE => run_den 400 ?_
  simp (disch := omega) only [Try.ntmps143, Try.results143, go_sem, Nat.reduceEqDiff, Nat.reduceAdd, Nat.reduceSub, Int.reduceAdd, Int.reduceSub, Int.reduceToNat]
  split <;> rename_i h1 <;> (try simp only [beq_true, beq_false, Bool.not_eq_true', Bool.not_eq_false'] at h1) <;> simp (disch := omega) only [go_sem, Nat.reduceEqDiff, Nat.reduceAdd, Nat.reduceSub, Int.reduceAdd, Int.reduceSub, Int.reduceToNat, h1] <;> (try simp only [decide_eq_true_eq, decide_eq_false_iff_not, beq_iff_eq, beq_eq_false_iff_ne, bne_iff_ne, bne_eq_false_iff_eq, ne_eq, Decidable.not_not, Bool.and_eq_true, Bool.and_eq_false_iff, Bool.or_eq_true, Bool.or_eq_false_iff, Int.ofNat_lt, Int.ofNat_le, Bool.not_eq_eq_eq_not, Bool.not_true, Bool.not_false] at h1) <;> try simp (disch := omega) only [go_sem, Nat.reduceEqDiff, Nat.reduceAdd, Nat.reduceSub, Int.reduceAdd, Int.reduceSub, Int.reduceToNat]
  · refine den_fin [] (by (try simp (disch := omega) only [go_sem, Nat.reduceEqDiff, Nat.reduceAdd, Nat.reduceSub, Int.reduceAdd, Int.reduceSub, Int.reduceToNat]) <;> omega) _ (by simp only [go_sem]; rfl) (by rfl) (by rfl) ?_
    simp (disch := omega) only [go_sem, Nat.reduceEqDiff, Nat.reduceAdd, Nat.reduceSub, Int.reduceAdd, Int.reduceSub, Int.reduceToNat]
    rw [markT, if_pos h1]
  · have hm : markT k = 109 :: decGo k.toNat [] := by rw [markT, if_neg h1]
    obtain ⟨n, rfl⟩ := Int.eq_ofNat_of_zero_le (show 0 ≤ k by omega)
    rw [Int.toNat_natCast] at hm
    try simp (disch := omega) only [go_sem, Nat.reduceEqDiff, Nat.reduceAdd, Nat.reduceSub, Int.reduceAdd, Int.reduceSub, Int.reduceToNat]
    refine den_lp 0 hE (fun s (x : Nat × List UInt8) => s.at [4, 5, 6, 7, 8, 9, 10, 11, 12, 13, 14, 15, 16, 17] [(0, .sc (.int .i64 (x.1 : Nat))), (3, .sc (.st x.2))] (s.hp)) (fun (x : Nat × List UInt8) => x.1 ≤ 4611686018427387904 ∧ x.2.length ≤ 20 ∧ (if x.1 = 0 then x.2 else decGo x.1 x.2) = decGo n []) (fun (x : Nat × List UInt8) => x.1) (n, []) [] (by (try simp (disch := omega) only [go_sem, Nat.reduceEqDiff, Nat.reduceAdd, Nat.reduceSub, Int.reduceAdd, Int.reduceSub, Int.reduceToNat]) <;> omega) (⟨by omega, by simp, by rw [if_neg (by omega)]⟩) (weak_mk (by rfl) (by rfl) ?_) fun x hx N hN => ?_
    · try simp (disch := omega) only [go_sem, Nat.reduceEqDiff, Nat.reduceAdd, Nat.reduceSub, Int.reduceAdd, Int.reduceSub, Int.reduceToNat]
    · obtain ⟨m, acc⟩ := x
      obtain ⟨hx1, hx3, hx4⟩ := hx
      dsimp only at hx1 hx3 hx4
      refine run_den 400 ?_
      try simp (disch := omega) only [go_sem, Nat.reduceEqDiff, Nat.reduceAdd, Nat.reduceSub, Int.reduceAdd, Int.reduceSub, Int.reduceToNat]
      split <;> rename_i h2 <;> (try simp only [beq_true, beq_false, Bool.not_eq_true', Bool.not_eq_false'] at h2) <;> simp (disch := omega) only [go_sem, Nat.reduceEqDiff, Nat.reduceAdd, Nat.reduceSub, Int.reduceAdd, Int.reduceSub, Int.reduceToNat, h2] <;> (try simp only [decide_eq_true_eq, decide_eq_false_iff_not, beq_iff_eq, beq_eq_false_iff_ne, bne_iff_ne, bne_eq_false_iff_eq, ne_eq, Decidable.not_not, Bool.and_eq_true, Bool.and_eq_false_iff, Bool.or_eq_true, Bool.or_eq_false_iff, Int.ofNat_lt, Int.ofNat_le, Bool.not_eq_eq_eq_not, Bool.not_true, Bool.not_false] at h2) <;> try simp (disch := omega) only [go_sem, Nat.reduceEqDiff, Nat.reduceAdd, Nat.reduceSub, Int.reduceAdd, Int.reduceSub, Int.reduceToNat]
      · have hb : m % 10 < 10 := Nat.mod_lt _ (by omega)
        have hlt := decGo_lt m acc
        rw [if_neg (by omega)] at hx4
        have hlen := decGo_20 (n := (n : Int)) ⟨by omega, by omega⟩
        rw [Int.natAbs_natCast] at hlen
        rw [hx4] at hlt
        rw [decGo_ten m acc (by omega)] at hx4
        try simp (disch := omega) only [go_sem, Nat.reduceEqDiff, Nat.reduceAdd, Nat.reduceSub, Int.reduceAdd, Int.reduceSub, Int.reduceToNat, byteSc]
        refine ⟨by (try simp (disch := omega) only [go_sem, Nat.reduceEqDiff, Nat.reduceAdd, Nat.reduceSub, Int.reduceAdd, Int.reduceSub, Int.reduceToNat, isByte]) <;> omega, hN _ (m / 10, UInt8.ofNat (48 + m % 10) :: acc) [] (by (try dsimp only); exact ⟨by omega, by simp; omega, hx4⟩) (by (try dsimp only); omega) (weak_mk (by rfl) (by rfl) ?_)⟩
        try simp (disch := omega) only [go_sem, Nat.reduceEqDiff, Nat.reduceAdd, Nat.reduceSub, Int.reduceAdd, Int.reduceSub, Int.reduceToNat]
        first | rfl | (congr 2; omega) | (congr 1; congr 1; omega) | (refine ⟨?_, ?_⟩ <;> first | omega | (congr 2; omega) | (congr 1; congr 1; omega))
      · have e : m = 0 := by omega
        subst e
        rw [if_pos rfl] at hx4
        refine den_fin [] (by (try simp (disch := omega) only [go_sem, Nat.reduceEqDiff, Nat.reduceAdd, Nat.reduceSub, Int.reduceAdd, Int.reduceSub, Int.reduceToNat]) <;> omega) _ (by simp only [go_sem]; rfl) (by rfl) (by rfl) ?_
        simp (disch := omega) only [go_sem, Nat.reduceEqDiff, Nat.reduceAdd, Nat.reduceSub, Int.reduceAdd, Int.reduceSub, Int.reduceToNat]
        rw [hm, ← hx4]
        try rfl
/-- What is marked. -/
def gen {α : Type} (f : Int → α) (c : Int) (k0 : Int) (n : Nat) : List α := (List.range n).map fun (j : Nat) => f (k0 + c * (j : Int))
theorem gen_length {α : Type} {f : Int → α} {c k0 : Int} {n : Nat} : (gen f c k0 n).length = n := by simp [gen]
theorem gen_succ {α : Type} {f : Int → α} {c k0 : Int} {n : Nat} : gen f c k0 (n + 1) = gen f c k0 n ++ [f (k0 + c * n)] := by
  simp [gen, List.range_succ]
theorem gen_get {α : Type} {f : Int → α} {c k0 : Int} {n k : Nat} (h : k < (gen f c k0 n).length) : (gen f c k0 n)[k] = f (k0 + c * k) := by simp [gen]
theorem take_set' {α : Type} {l : List α} {k : Nat} (h : k < l.length) (v : α) : (l.set k v).take (k + 1) = l.take k ++ [v] := by
  rw [List.take_succ_eq_append_getElem (by simpa using h), List.getElem_set_self, List.take_set_of_le (Nat.le_refl _)]
theorem map_set_get {α : Type} {f : α → List Sc} {l : List α} {k : Nat} {v : List Sc} (h : k < l.length) : ((l.map f).set k v)[k]? = some v := by
  rw [List.getElem?_set_self (by simpa using h)]
theorem set_set' {l : List (List Sc)} {k : Nat} {v w : List Sc} : (l.set k v).set k w = l.set k w := by simp
theorem map_set' {α : Type} {f : α → List Sc} {l : List α} {k : Nat} {v : α} {w : List Sc} (h : f v = w) : (l.map f).set k w = (l.set k v).map f := by rw [List.map_set, h]
attribute [go_sem] map_set_get set_set'
def mkInt (k : Int) : Int := k
set_option maxHeartbeats 4000000 in
theorem laws_markIntS (l : List Int) (k0 : Int) (hl : l.length ≤ 16777216) (h0 : 0 ≤ k0) (h1 : k0 ≤ 1099511627776) : CallA Try.prog 73 [.sc (.sl 0 0 l.length), .sc (.int .i64 k0)] [some ⟨l.map intC, 1, 3, true, true⟩] (.sc (.int .i64 (k0 + 1 * (l.length : Int)))) [some ⟨(gen mkInt 1 k0 l.length).map intC, 1, 3, true, true⟩] := by
  refine callA_of Try.func73 (by kernel_rfl) rfl fun E hE => run_den 400 ?_
  simp (disch := omega) only [Try.ntmps73, Try.results73, go_sem, Nat.reduceEqDiff, Nat.reduceAdd, Nat.reduceSub, Int.reduceAdd, Int.reduceSub, Int.reduceToNat]
  refine den_lp 1 hE (fun s (x : Nat × Int × List Int) => s.at [6, 7, 8, 9, 10, 11, 12, 13, 14, 15, 16, 17] [(5, .sc (.int .i64 (x.1 : Nat))), (1, .sc (.int .i64 x.2.1))] ([some ⟨x.2.2.map intC, 1, 3, true, true⟩])) (fun (x : Nat × Int × List Int) => x.1 ≤ l.length ∧ x.2.2.length = l.length ∧ x.2.1 = k0 + 1 * (x.1 : Int) ∧ x.2.2.take x.1 = gen mkInt 1 k0 x.1) (fun (x : Nat × Int × List Int) => l.length - x.1) (0, k0, l) [some (0, none)] (by (try simp (disch := omega) only [go_sem, Nat.reduceEqDiff, Nat.reduceAdd, Nat.reduceSub, Int.reduceAdd, Int.reduceSub, Int.reduceToNat]) <;> omega) (⟨Nat.zero_le _, rfl, by simp, rfl⟩) (weak_mk (by rfl) (by rfl) ?_) fun x hx N hN => ?_
  · try simp (disch := omega) only [go_sem, Nat.reduceEqDiff, Nat.reduceAdd, Nat.reduceSub, Int.reduceAdd, Int.reduceSub, Int.reduceToNat]
  · obtain ⟨i, k, m⟩ := x
    obtain ⟨hx1, hx2, hx3, hx4⟩ := hx
    dsimp only at hx1 hx2 hx3 hx4
    refine run_den 400 ?_
    try simp (disch := omega) only [go_sem, Nat.reduceEqDiff, Nat.reduceAdd, Nat.reduceSub, Int.reduceAdd, Int.reduceSub, Int.reduceToNat]
    split <;> rename_i h <;> (try simp only [beq_true, beq_false, Bool.not_eq_true', Bool.not_eq_false'] at h) <;> simp (disch := omega) only [go_sem, Nat.reduceEqDiff, Nat.reduceAdd, Nat.reduceSub, Int.reduceAdd, Int.reduceSub, Int.reduceToNat, h] <;> (try simp only [decide_eq_true_eq, decide_eq_false_iff_not, beq_iff_eq, beq_eq_false_iff_ne, bne_iff_ne, bne_eq_false_iff_eq, ne_eq, Decidable.not_not, Bool.and_eq_true, Bool.and_eq_false_iff, Bool.or_eq_true, Bool.or_eq_false_iff, Int.ofNat_lt, Int.ofNat_le, Bool.not_eq_eq_eq_not, Bool.not_true, Bool.not_false] at h) <;> try simp (disch := omega) only [go_sem, Nat.reduceEqDiff, Nat.reduceAdd, Nat.reduceSub, Int.reduceAdd, Int.reduceSub, Int.reduceToNat]
    · have hi : i < m.length := by omega
      try simp (disch := omega) only [go_sem, Nat.reduceEqDiff, Nat.reduceAdd, Nat.reduceSub, Int.reduceAdd, Int.reduceSub, Int.reduceToNat, map_get hi, strs_get hi]
      have ht := take_set' hi (mkInt k)
      rw [hx4, hx3, ← gen_succ, ← hx3] at ht
      refine ⟨by (try simp (disch := omega) only [go_sem, Nat.reduceEqDiff, Nat.reduceAdd, Nat.reduceSub, Int.reduceAdd, Int.reduceSub, Int.reduceToNat]) <;> omega, hN _ (i + 1, k + 1, m.set i (mkInt k)) [some (0, none)] (by (try dsimp only); exact ⟨by omega, by simp; omega, by omega, ht⟩) (by (try dsimp only); omega) (weak_mk (by rfl) (by rfl) ?_)⟩
      try simp (disch := omega) only [go_sem, Nat.reduceEqDiff, Nat.reduceAdd, Nat.reduceSub, Int.reduceAdd, Int.reduceSub, Int.reduceToNat]
      try exact ⟨by omega, map_set' rfl⟩
      try exact map_set' rfl
    · have e : i = l.length := by omega
      subst e
      rw [List.take_of_length_le (by omega)] at hx4
      subst hx4
      refine den_fin [some (0, none)] (by (try simp (disch := omega) only [go_sem, Nat.reduceEqDiff, Nat.reduceAdd, Nat.reduceSub, Int.reduceAdd, Int.reduceSub, Int.reduceToNat]) <;> omega) _ (by simp only [go_sem]; rfl) (by rfl) (by rfl) ?_
      simp (disch := omega) only [go_sem, Nat.reduceEqDiff, Nat.reduceAdd, Nat.reduceSub, Int.reduceAdd, Int.reduceSub, Int.reduceToNat]
      try exact hx3
      try exact ⟨hx3, rfl⟩
set_option maxHeartbeats 4000000 in
theorem laws_heldIntS (k0 : Int) (n : Nat) (hl : n ≤ 16777216) (h0 : 0 ≤ k0) (h1 : k0 ≤ 1099511627776) : CallA Try.prog 74 [.sc (.sl 0 0 n), .sc (.int .i64 k0)] [some ⟨(gen mkInt 1 k0 n).map intC, 1, 3, false, true⟩] (.sc (.int .i64 (k0 + 1 * (n : Int)))) [some ⟨(gen mkInt 1 k0 n).map intC, 1, 3, false, true⟩] := by
  have hg : (gen mkInt 1 k0 n).length = n := gen_length
  refine callA_of Try.func74 (by kernel_rfl) rfl fun E hE => run_den 400 ?_
  simp (disch := omega) only [Try.ntmps74, Try.results74, go_sem, Nat.reduceEqDiff, Nat.reduceAdd, Nat.reduceSub, Int.reduceAdd, Int.reduceSub, Int.reduceToNat]
  refine den_lp 1 hE (fun s (x : Nat × Int) => s.at [4, 6, 7, 8, 9, 10, 11, 12, 13, 14, 15, 16, 17, 18, 19] [(5, .sc (.int .i64 (x.1 : Nat))), (1, .sc (.int .i64 x.2))] (s.hp)) (fun (x : Nat × Int) => x.1 ≤ n ∧ x.2 = k0 + 1 * (x.1 : Int)) (fun (x : Nat × Int) => n - x.1) (0, k0) [some (0, none)] (by (try simp (disch := omega) only [go_sem, Nat.reduceEqDiff, Nat.reduceAdd, Nat.reduceSub, Int.reduceAdd, Int.reduceSub, Int.reduceToNat]) <;> omega) (⟨Nat.zero_le _, by simp⟩) (weak_mk (by rfl) (by rfl) ?_) fun x hx N hN => ?_
  · try simp (disch := omega) only [go_sem, Nat.reduceEqDiff, Nat.reduceAdd, Nat.reduceSub, Int.reduceAdd, Int.reduceSub, Int.reduceToNat]
  · obtain ⟨i, k⟩ := x
    obtain ⟨hx1, hx3⟩ := hx
    dsimp only at hx1 hx3
    refine run_den 400 ?_
    try simp (disch := omega) only [go_sem, Nat.reduceEqDiff, Nat.reduceAdd, Nat.reduceSub, Int.reduceAdd, Int.reduceSub, Int.reduceToNat]
    split <;> rename_i h <;> (try simp only [beq_true, beq_false, Bool.not_eq_true', Bool.not_eq_false'] at h) <;> simp (disch := omega) only [go_sem, Nat.reduceEqDiff, Nat.reduceAdd, Nat.reduceSub, Int.reduceAdd, Int.reduceSub, Int.reduceToNat, h] <;> (try simp only [decide_eq_true_eq, decide_eq_false_iff_not, beq_iff_eq, beq_eq_false_iff_ne, bne_iff_ne, bne_eq_false_iff_eq, ne_eq, Decidable.not_not, Bool.and_eq_true, Bool.and_eq_false_iff, Bool.or_eq_true, Bool.or_eq_false_iff, Int.ofNat_lt, Int.ofNat_le, Bool.not_eq_eq_eq_not, Bool.not_true, Bool.not_false] at h) <;> try simp (disch := omega) only [go_sem, Nat.reduceEqDiff, Nat.reduceAdd, Nat.reduceSub, Int.reduceAdd, Int.reduceSub, Int.reduceToNat]
    · have hi : i < (gen mkInt 1 k0 n).length := by omega
      have he := gen_get hi
      rw [← hx3] at he
      try simp (disch := omega) only [go_sem, Nat.reduceEqDiff, Nat.reduceAdd, Nat.reduceSub, Int.reduceAdd, Int.reduceSub, Int.reduceToNat, map_get hi, he, mkInt]
      refine ⟨by (try simp (disch := omega) only [go_sem, Nat.reduceEqDiff, Nat.reduceAdd, Nat.reduceSub, Int.reduceAdd, Int.reduceSub, Int.reduceToNat]) <;> omega, hN _ (i + 1, k + 1) [some (0, none)] (by (try dsimp only); exact ⟨by omega, by omega⟩) (by (try dsimp only); omega) (weak_mk (by rfl) (by rfl) ?_)⟩
      try simp (disch := omega) only [go_sem, Nat.reduceEqDiff, Nat.reduceAdd, Nat.reduceSub, Int.reduceAdd, Int.reduceSub, Int.reduceToNat]
      try omega
    · have e : i = n := by omega
      subst e
      refine den_fin [some (0, none)] (by (try simp (disch := omega) only [go_sem, Nat.reduceEqDiff, Nat.reduceAdd, Nat.reduceSub, Int.reduceAdd, Int.reduceSub, Int.reduceToNat]) <;> omega) _ (by simp only [go_sem]; rfl) (by rfl) (by rfl) ?_
      simp (disch := omega) only [go_sem, Nat.reduceEqDiff, Nat.reduceAdd, Nat.reduceSub, Int.reduceAdd, Int.reduceSub, Int.reduceToNat]
      try exact hx3
def mkString (k : Int) : (List UInt8) := markT (k)
set_option maxHeartbeats 4000000 in
theorem laws_markStringS (l : List (List UInt8)) (k0 : Int) (hl : l.length ≤ 16777216) (h0 : 0 ≤ k0) (h1 : k0 ≤ 1099511627776) : CallA Try.prog 54 [.sc (.sl 0 0 l.length), .sc (.int .i64 k0)] [some ⟨l.map strC, 1, 9, true, true⟩] (.sc (.int .i64 (k0 + 1 * (l.length : Int)))) [some ⟨(gen mkString 1 k0 l.length).map strC, 1, 9, true, true⟩] := by
  refine callA_of Try.func54 (by kernel_rfl) rfl fun E hE => run_den 400 ?_
  simp (disch := omega) only [Try.ntmps54, Try.results54, go_sem, Nat.reduceEqDiff, Nat.reduceAdd, Nat.reduceSub, Int.reduceAdd, Int.reduceSub, Int.reduceToNat]
  refine den_lp 1 hE (fun s (x : Nat × Int × List (List UInt8)) => s.at [6, 7, 8, 9, 10, 11, 12, 13, 14, 15, 16, 17, 18] [(5, .sc (.int .i64 (x.1 : Nat))), (1, .sc (.int .i64 x.2.1))] ([some ⟨x.2.2.map strC, 1, 9, true, true⟩])) (fun (x : Nat × Int × List (List UInt8)) => x.1 ≤ l.length ∧ x.2.2.length = l.length ∧ x.2.1 = k0 + 1 * (x.1 : Int) ∧ x.2.2.take x.1 = gen mkString 1 k0 x.1) (fun (x : Nat × Int × List (List UInt8)) => l.length - x.1) (0, k0, l) [some (0, none)] (by (try simp (disch := omega) only [go_sem, Nat.reduceEqDiff, Nat.reduceAdd, Nat.reduceSub, Int.reduceAdd, Int.reduceSub, Int.reduceToNat]) <;> omega) (⟨Nat.zero_le _, rfl, by simp, rfl⟩) (weak_mk (by rfl) (by rfl) ?_) fun x hx N hN => ?_
  · try simp (disch := omega) only [go_sem, Nat.reduceEqDiff, Nat.reduceAdd, Nat.reduceSub, Int.reduceAdd, Int.reduceSub, Int.reduceToNat]
  · obtain ⟨i, k, m⟩ := x
    obtain ⟨hx1, hx2, hx3, hx4⟩ := hx
    dsimp only at hx1 hx2 hx3 hx4
    refine run_den 400 ?_
    try simp (disch := omega) only [go_sem, Nat.reduceEqDiff, Nat.reduceAdd, Nat.reduceSub, Int.reduceAdd, Int.reduceSub, Int.reduceToNat]
    split <;> rename_i h <;> (try simp only [beq_true, beq_false, Bool.not_eq_true', Bool.not_eq_false'] at h) <;> simp (disch := omega) only [go_sem, Nat.reduceEqDiff, Nat.reduceAdd, Nat.reduceSub, Int.reduceAdd, Int.reduceSub, Int.reduceToNat, h] <;> (try simp only [decide_eq_true_eq, decide_eq_false_iff_not, beq_iff_eq, beq_eq_false_iff_ne, bne_iff_ne, bne_eq_false_iff_eq, ne_eq, Decidable.not_not, Bool.and_eq_true, Bool.and_eq_false_iff, Bool.or_eq_true, Bool.or_eq_false_iff, Int.ofNat_lt, Int.ofNat_le, Bool.not_eq_eq_eq_not, Bool.not_true, Bool.not_false] at h) <;> try simp (disch := omega) only [go_sem, Nat.reduceEqDiff, Nat.reduceAdd, Nat.reduceSub, Int.reduceAdd, Int.reduceSub, Int.reduceToNat]
    · have hi : i < m.length := by omega
      try simp (disch := omega) only [go_sem, Nat.reduceEqDiff, Nat.reduceAdd, Nat.reduceSub, Int.reduceAdd, Int.reduceSub, Int.reduceToNat, map_get hi, strs_get hi]
      refine den_call (by (try simp (disch := omega) only [go_sem, Nat.reduceEqDiff, Nat.reduceAdd, Nat.reduceSub, Int.reduceAdd, Int.reduceSub, Int.reduceToNat]) <;> omega) (laws_markText k (by omega)) [] (by simp only [go_sem]; repeat' first | rfl | constructor) (by rfl) (run_den 400 ?_)
      simp (disch := omega) only [go_sem, Nat.reduceEqDiff, Nat.reduceAdd, Nat.reduceSub, Int.reduceAdd, Int.reduceSub, Int.reduceToNat]
      have ht := take_set' hi (mkString k)
      rw [hx4, hx3, ← gen_succ, ← hx3] at ht
      refine ⟨by (try simp (disch := omega) only [go_sem, Nat.reduceEqDiff, Nat.reduceAdd, Nat.reduceSub, Int.reduceAdd, Int.reduceSub, Int.reduceToNat]) <;> omega, hN _ (i + 1, k + 1, m.set i (mkString k)) [some (0, none)] (by (try dsimp only); exact ⟨by omega, by simp; omega, by omega, ht⟩) (by (try dsimp only); omega) (weak_mk (by rfl) (by rfl) ?_)⟩
      try simp (disch := omega) only [go_sem, Nat.reduceEqDiff, Nat.reduceAdd, Nat.reduceSub, Int.reduceAdd, Int.reduceSub, Int.reduceToNat]
      try exact ⟨by omega, map_set' rfl⟩
      try exact map_set' rfl
    · have e : i = l.length := by omega
      subst e
      rw [List.take_of_length_le (by omega)] at hx4
      subst hx4
      refine den_fin [some (0, none)] (by (try simp (disch := omega) only [go_sem, Nat.reduceEqDiff, Nat.reduceAdd, Nat.reduceSub, Int.reduceAdd, Int.reduceSub, Int.reduceToNat]) <;> omega) _ (by simp only [go_sem]; rfl) (by rfl) (by rfl) ?_
      simp (disch := omega) only [go_sem, Nat.reduceEqDiff, Nat.reduceAdd, Nat.reduceSub, Int.reduceAdd, Int.reduceSub, Int.reduceToNat]
      try exact hx3
      try exact ⟨hx3, rfl⟩
set_option maxHeartbeats 4000000 in
theorem laws_heldStringS (k0 : Int) (n : Nat) (hl : n ≤ 16777216) (h0 : 0 ≤ k0) (h1 : k0 ≤ 1099511627776) : CallA Try.prog 55 [.sc (.sl 0 0 n), .sc (.int .i64 k0)] [some ⟨(gen mkString 1 k0 n).map strC, 1, 9, false, true⟩] (.sc (.int .i64 (k0 + 1 * (n : Int)))) [some ⟨(gen mkString 1 k0 n).map strC, 1, 9, false, true⟩] := by
  have hg : (gen mkString 1 k0 n).length = n := gen_length
  refine callA_of Try.func55 (by kernel_rfl) rfl fun E hE => run_den 400 ?_
  simp (disch := omega) only [Try.ntmps55, Try.results55, go_sem, Nat.reduceEqDiff, Nat.reduceAdd, Nat.reduceSub, Int.reduceAdd, Int.reduceSub, Int.reduceToNat]
  refine den_lp 1 hE (fun s (x : Nat × Int) => s.at [4, 6, 7, 8, 9, 10, 11, 12, 13, 14, 15, 16, 17, 18, 19, 20] [(5, .sc (.int .i64 (x.1 : Nat))), (1, .sc (.int .i64 x.2))] (s.hp)) (fun (x : Nat × Int) => x.1 ≤ n ∧ x.2 = k0 + 1 * (x.1 : Int)) (fun (x : Nat × Int) => n - x.1) (0, k0) [some (0, none)] (by (try simp (disch := omega) only [go_sem, Nat.reduceEqDiff, Nat.reduceAdd, Nat.reduceSub, Int.reduceAdd, Int.reduceSub, Int.reduceToNat]) <;> omega) (⟨Nat.zero_le _, by simp⟩) (weak_mk (by rfl) (by rfl) ?_) fun x hx N hN => ?_
  · try simp (disch := omega) only [go_sem, Nat.reduceEqDiff, Nat.reduceAdd, Nat.reduceSub, Int.reduceAdd, Int.reduceSub, Int.reduceToNat]
  · obtain ⟨i, k⟩ := x
    obtain ⟨hx1, hx3⟩ := hx
    dsimp only at hx1 hx3
    refine run_den 400 ?_
    try simp (disch := omega) only [go_sem, Nat.reduceEqDiff, Nat.reduceAdd, Nat.reduceSub, Int.reduceAdd, Int.reduceSub, Int.reduceToNat]
    split <;> rename_i h <;> (try simp only [beq_true, beq_false, Bool.not_eq_true', Bool.not_eq_false'] at h) <;> simp (disch := omega) only [go_sem, Nat.reduceEqDiff, Nat.reduceAdd, Nat.reduceSub, Int.reduceAdd, Int.reduceSub, Int.reduceToNat, h] <;> (try simp only [decide_eq_true_eq, decide_eq_false_iff_not, beq_iff_eq, beq_eq_false_iff_ne, bne_iff_ne, bne_eq_false_iff_eq, ne_eq, Decidable.not_not, Bool.and_eq_true, Bool.and_eq_false_iff, Bool.or_eq_true, Bool.or_eq_false_iff, Int.ofNat_lt, Int.ofNat_le, Bool.not_eq_eq_eq_not, Bool.not_true, Bool.not_false] at h) <;> try simp (disch := omega) only [go_sem, Nat.reduceEqDiff, Nat.reduceAdd, Nat.reduceSub, Int.reduceAdd, Int.reduceSub, Int.reduceToNat]
    · have hi : i < (gen mkString 1 k0 n).length := by omega
      have he := gen_get hi
      rw [← hx3] at he
      refine den_draw1 [0, 1, 2, 3, 4, 5, 6] (by kernel_rfl) (by (try simp (disch := omega) only [go_sem, Nat.reduceEqDiff, Nat.reduceAdd, Nat.reduceSub, Int.reduceAdd, Int.reduceSub, Int.reduceToNat]) <;> omega) (by kernel_rfl) (runD_den 400 ?_)
      simp (disch := omega) only [go_sem, Nat.reduceEqDiff, Nat.reduceAdd, Nat.reduceSub, Int.reduceAdd, Int.reduceSub, Int.reduceToNat]
      try simp (disch := omega) only [go_sem, Nat.reduceEqDiff, Nat.reduceAdd, Nat.reduceSub, Int.reduceAdd, Int.reduceSub, Int.reduceToNat, strs_get hi, he]
      refine den_callD (by (try simp (disch := omega) only [go_sem, Nat.reduceEqDiff, Nat.reduceAdd, Nat.reduceSub, Int.reduceAdd, Int.reduceSub, Int.reduceToNat]) <;> omega) (laws_markText k (by omega)) [] (by simp only [go_sem]; repeat' first | rfl | constructor) (by rfl) (by rfl) (runD_den 400 ?_)
      simp (disch := omega) only [go_sem, Nat.reduceEqDiff, Nat.reduceAdd, Nat.reduceSub, Int.reduceAdd, Int.reduceSub, Int.reduceToNat]
      refine ⟨by (try simp (disch := omega) only [go_sem, Nat.reduceEqDiff, Nat.reduceAdd, Nat.reduceSub, Int.reduceAdd, Int.reduceSub, Int.reduceToNat]) <;> omega, run_den 400 ?_⟩
      try simp (disch := omega) only [go_sem, Nat.reduceEqDiff, Nat.reduceAdd, Nat.reduceSub, Int.reduceAdd, Int.reduceSub, Int.reduceToNat, mkString, beq_self_eq_true]
      refine ⟨by (try simp (disch := omega) only [go_sem, Nat.reduceEqDiff, Nat.reduceAdd, Nat.reduceSub, Int.reduceAdd, Int.reduceSub, Int.reduceToNat]) <;> omega, hN _ (i + 1, k + 1) [some (0, none)] (by (try dsimp only); exact ⟨by omega, by omega⟩) (by (try dsimp only); omega) (weak_mk (by rfl) (by rfl) ?_)⟩
      try simp (disch := omega) only [go_sem, Nat.reduceEqDiff, Nat.reduceAdd, Nat.reduceSub, Int.reduceAdd, Int.reduceSub, Int.reduceToNat]
      try omega
    · have e : i = n := by omega
      subst e
      refine den_fin [some (0, none)] (by (try simp (disch := omega) only [go_sem, Nat.reduceEqDiff, Nat.reduceAdd, Nat.reduceSub, Int.reduceAdd, Int.reduceSub, Int.reduceToNat]) <;> omega) _ (by simp only [go_sem]; rfl) (by rfl) (by rfl) ?_
      simp (disch := omega) only [go_sem, Nat.reduceEqDiff, Nat.reduceAdd, Nat.reduceSub, Int.reduceAdd, Int.reduceSub, Int.reduceToNat]
      try exact hx3
def mkRoad (k : Int) : RoadD := ⟨k, k + 1, k + 1 + 1⟩
set_option maxHeartbeats 4000000 in
theorem laws_markRoadS (l : List RoadD) (k0 : Int) (hl : l.length ≤ 16777216) (h0 : 0 ≤ k0) (h1 : k0 ≤ 1099511627776) : CallA Try.prog 49 [.sc (.sl 0 0 l.length), .sc (.int .i64 k0)] [some ⟨l.map RoadD.cs, 3, 137, true, true⟩] (.sc (.int .i64 (k0 + 3 * (l.length : Int)))) [some ⟨(gen mkRoad 3 k0 l.length).map RoadD.cs, 3, 137, true, true⟩] := by
  refine callA_of Try.func49 (by kernel_rfl) rfl fun E hE => run_den 400 ?_
  simp (disch := omega) only [Try.ntmps49, Try.results49, go_sem, Nat.reduceEqDiff, Nat.reduceAdd, Nat.reduceSub, Int.reduceAdd, Int.reduceSub, Int.reduceToNat]
  refine den_lp 1 hE (fun s (x : Nat × Int × List RoadD) => s.at [6, 7, 8, 9, 10, 11, 12, 13, 14, 15, 16, 17, 18, 19, 20, 21, 22, 23, 24, 25, 26, 27, 28, 29, 30, 31, 32] [(5, .sc (.int .i64 (x.1 : Nat))), (1, .sc (.int .i64 x.2.1))] ([some ⟨x.2.2.map RoadD.cs, 3, 137, true, true⟩])) (fun (x : Nat × Int × List RoadD) => x.1 ≤ l.length ∧ x.2.2.length = l.length ∧ x.2.1 = k0 + 3 * (x.1 : Int) ∧ x.2.2.take x.1 = gen mkRoad 3 k0 x.1) (fun (x : Nat × Int × List RoadD) => l.length - x.1) (0, k0, l) [some (0, none)] (by (try simp (disch := omega) only [go_sem, Nat.reduceEqDiff, Nat.reduceAdd, Nat.reduceSub, Int.reduceAdd, Int.reduceSub, Int.reduceToNat]) <;> omega) (⟨Nat.zero_le _, rfl, by simp, rfl⟩) (weak_mk (by rfl) (by rfl) ?_) fun x hx N hN => ?_
  · try simp (disch := omega) only [go_sem, Nat.reduceEqDiff, Nat.reduceAdd, Nat.reduceSub, Int.reduceAdd, Int.reduceSub, Int.reduceToNat]
  · obtain ⟨i, k, m⟩ := x
    obtain ⟨hx1, hx2, hx3, hx4⟩ := hx
    dsimp only at hx1 hx2 hx3 hx4
    refine run_den 400 ?_
    try simp (disch := omega) only [go_sem, Nat.reduceEqDiff, Nat.reduceAdd, Nat.reduceSub, Int.reduceAdd, Int.reduceSub, Int.reduceToNat]
    split <;> rename_i h <;> (try simp only [beq_true, beq_false, Bool.not_eq_true', Bool.not_eq_false'] at h) <;> simp (disch := omega) only [go_sem, Nat.reduceEqDiff, Nat.reduceAdd, Nat.reduceSub, Int.reduceAdd, Int.reduceSub, Int.reduceToNat, h] <;> (try simp only [decide_eq_true_eq, decide_eq_false_iff_not, beq_iff_eq, beq_eq_false_iff_ne, bne_iff_ne, bne_eq_false_iff_eq, ne_eq, Decidable.not_not, Bool.and_eq_true, Bool.and_eq_false_iff, Bool.or_eq_true, Bool.or_eq_false_iff, Int.ofNat_lt, Int.ofNat_le, Bool.not_eq_eq_eq_not, Bool.not_true, Bool.not_false] at h) <;> try simp (disch := omega) only [go_sem, Nat.reduceEqDiff, Nat.reduceAdd, Nat.reduceSub, Int.reduceAdd, Int.reduceSub, Int.reduceToNat]
    · have hi : i < m.length := by omega
      try simp (disch := omega) only [go_sem, Nat.reduceEqDiff, Nat.reduceAdd, Nat.reduceSub, Int.reduceAdd, Int.reduceSub, Int.reduceToNat, map_get hi, strs_get hi]
      have ht := take_set' hi (mkRoad k)
      rw [hx4, hx3, ← gen_succ, ← hx3] at ht
      refine ⟨by (try simp (disch := omega) only [go_sem, Nat.reduceEqDiff, Nat.reduceAdd, Nat.reduceSub, Int.reduceAdd, Int.reduceSub, Int.reduceToNat]) <;> omega, hN _ (i + 1, k + 1 + 1 + 1, m.set i (mkRoad k)) [some (0, none)] (by (try dsimp only); exact ⟨by omega, by simp; omega, by omega, ht⟩) (by (try dsimp only); omega) (weak_mk (by rfl) (by rfl) ?_)⟩
      try simp (disch := omega) only [go_sem, Nat.reduceEqDiff, Nat.reduceAdd, Nat.reduceSub, Int.reduceAdd, Int.reduceSub, Int.reduceToNat]
      try exact ⟨by omega, map_set' rfl⟩
      try exact map_set' rfl
    · have e : i = l.length := by omega
      subst e
      rw [List.take_of_length_le (by omega)] at hx4
      subst hx4
      refine den_fin [some (0, none)] (by (try simp (disch := omega) only [go_sem, Nat.reduceEqDiff, Nat.reduceAdd, Nat.reduceSub, Int.reduceAdd, Int.reduceSub, Int.reduceToNat]) <;> omega) _ (by simp only [go_sem]; rfl) (by rfl) (by rfl) ?_
      simp (disch := omega) only [go_sem, Nat.reduceEqDiff, Nat.reduceAdd, Nat.reduceSub, Int.reduceAdd, Int.reduceSub, Int.reduceToNat]
      try exact hx3
      try exact ⟨hx3, rfl⟩
set_option maxHeartbeats 4000000 in
theorem laws_heldRoadS (k0 : Int) (n : Nat) (hl : n ≤ 16777216) (h0 : 0 ≤ k0) (h1 : k0 ≤ 1099511627776) : CallA Try.prog 50 [.sc (.sl 0 0 n), .sc (.int .i64 k0)] [some ⟨(gen mkRoad 3 k0 n).map RoadD.cs, 3, 137, false, true⟩] (.sc (.int .i64 (k0 + 3 * (n : Int)))) [some ⟨(gen mkRoad 3 k0 n).map RoadD.cs, 3, 137, false, true⟩] := by
  have hg : (gen mkRoad 3 k0 n).length = n := gen_length
  refine callA_of Try.func50 (by kernel_rfl) rfl fun E hE => run_den 400 ?_
  simp (disch := omega) only [Try.ntmps50, Try.results50, go_sem, Nat.reduceEqDiff, Nat.reduceAdd, Nat.reduceSub, Int.reduceAdd, Int.reduceSub, Int.reduceToNat]
  refine den_lp 1 hE (fun s (x : Nat × Int) => s.at [4, 6, 7, 8, 9, 10, 11, 12, 13, 14, 15, 16, 17, 18, 19, 20, 21, 22, 23, 24, 25, 26, 27, 28, 29, 30, 31, 32, 33, 34, 35, 36, 37, 38] [(5, .sc (.int .i64 (x.1 : Nat))), (1, .sc (.int .i64 x.2))] (s.hp)) (fun (x : Nat × Int) => x.1 ≤ n ∧ x.2 = k0 + 3 * (x.1 : Int)) (fun (x : Nat × Int) => n - x.1) (0, k0) [some (0, none)] (by (try simp (disch := omega) only [go_sem, Nat.reduceEqDiff, Nat.reduceAdd, Nat.reduceSub, Int.reduceAdd, Int.reduceSub, Int.reduceToNat]) <;> omega) (⟨Nat.zero_le _, by simp⟩) (weak_mk (by rfl) (by rfl) ?_) fun x hx N hN => ?_
  · try simp (disch := omega) only [go_sem, Nat.reduceEqDiff, Nat.reduceAdd, Nat.reduceSub, Int.reduceAdd, Int.reduceSub, Int.reduceToNat]
  · obtain ⟨i, k⟩ := x
    obtain ⟨hx1, hx3⟩ := hx
    dsimp only at hx1 hx3
    refine run_den 400 ?_
    try simp (disch := omega) only [go_sem, Nat.reduceEqDiff, Nat.reduceAdd, Nat.reduceSub, Int.reduceAdd, Int.reduceSub, Int.reduceToNat]
    split <;> rename_i h <;> (try simp only [beq_true, beq_false, Bool.not_eq_true', Bool.not_eq_false'] at h) <;> simp (disch := omega) only [go_sem, Nat.reduceEqDiff, Nat.reduceAdd, Nat.reduceSub, Int.reduceAdd, Int.reduceSub, Int.reduceToNat, h] <;> (try simp only [decide_eq_true_eq, decide_eq_false_iff_not, beq_iff_eq, beq_eq_false_iff_ne, bne_iff_ne, bne_eq_false_iff_eq, ne_eq, Decidable.not_not, Bool.and_eq_true, Bool.and_eq_false_iff, Bool.or_eq_true, Bool.or_eq_false_iff, Int.ofNat_lt, Int.ofNat_le, Bool.not_eq_eq_eq_not, Bool.not_true, Bool.not_false] at h) <;> try simp (disch := omega) only [go_sem, Nat.reduceEqDiff, Nat.reduceAdd, Nat.reduceSub, Int.reduceAdd, Int.reduceSub, Int.reduceToNat]
    · have hi : i < (gen mkRoad 3 k0 n).length := by omega
      have he := gen_get hi
      rw [← hx3] at he
      try simp (disch := omega) only [go_sem, Nat.reduceEqDiff, Nat.reduceAdd, Nat.reduceSub, Int.reduceAdd, Int.reduceSub, Int.reduceToNat, map_get hi, he, mkRoad]
      refine ⟨by (try simp (disch := omega) only [go_sem, Nat.reduceEqDiff, Nat.reduceAdd, Nat.reduceSub, Int.reduceAdd, Int.reduceSub, Int.reduceToNat]) <;> omega, hN _ (i + 1, k + 1 + 1 + 1) [some (0, none)] (by (try dsimp only); exact ⟨by omega, by omega⟩) (by (try dsimp only); omega) (weak_mk (by rfl) (by rfl) ?_)⟩
      try simp (disch := omega) only [go_sem, Nat.reduceEqDiff, Nat.reduceAdd, Nat.reduceSub, Int.reduceAdd, Int.reduceSub, Int.reduceToNat]
      try omega
    · have e : i = n := by omega
      subst e
      refine den_fin [some (0, none)] (by (try simp (disch := omega) only [go_sem, Nat.reduceEqDiff, Nat.reduceAdd, Nat.reduceSub, Int.reduceAdd, Int.reduceSub, Int.reduceToNat]) <;> omega) _ (by simp only [go_sem]; rfl) (by rfl) (by rfl) ?_
      simp (disch := omega) only [go_sem, Nat.reduceEqDiff, Nat.reduceAdd, Nat.reduceSub, Int.reduceAdd, Int.reduceSub, Int.reduceToNat]
      try exact hx3
set_option maxHeartbeats 4000000 in
theorem laws_markAddrS (l : List AddrD) (k0 : Int) (hl : l.length ≤ 16777216) (h0 : 0 ≤ k0) (h1 : k0 ≤ 1099511627776) : CallA Try.prog 133 [.sc (.sl 0 0 l.length), .sc (.int .i64 k0)] [some ⟨l.map AddrD.cs, 4, 167, true, true⟩] (.sc (.int .i64 (k0 + 4 * (l.length : Int)))) [none] := by
  refine callA_of Try.func133 (by kernel_rfl) rfl fun E hE => run_den 400 ?_
  simp (disch := omega) only [Try.ntmps133, Try.results133, go_sem, Nat.reduceEqDiff, Nat.reduceAdd, Nat.reduceSub, Int.reduceAdd, Int.reduceSub, Int.reduceToNat]
  refine den_lp 1 hE (fun s (x : Nat × Int × List AddrD) => s.at [6, 7, 8, 9, 10, 11, 12, 13, 14, 15, 16, 17, 18, 19, 20, 21, 22, 23, 24, 25, 26, 27, 28, 29, 30, 31, 32, 33, 34, 35, 36, 37, 38, 39, 40, 41, 42, 43] [(5, .sc (.int .i64 (x.1 : Nat))), (1, .sc (.int .i64 x.2.1))] ([some ⟨x.2.2.map AddrD.cs, 4, 167, true, true⟩])) (fun (x : Nat × Int × List AddrD) => x.1 ≤ l.length ∧ x.2.2.length = l.length ∧ x.2.1 = k0 + 4 * (x.1 : Int)) (fun (x : Nat × Int × List AddrD) => l.length - x.1) (0, k0, l) [some (0, none)] (by (try simp (disch := omega) only [go_sem, Nat.reduceEqDiff, Nat.reduceAdd, Nat.reduceSub, Int.reduceAdd, Int.reduceSub, Int.reduceToNat]) <;> omega) (⟨Nat.zero_le _, rfl, by simp⟩) (weak_mk (by rfl) (by rfl) ?_) fun x hx N hN => ?_
  · try simp (disch := omega) only [go_sem, Nat.reduceEqDiff, Nat.reduceAdd, Nat.reduceSub, Int.reduceAdd, Int.reduceSub, Int.reduceToNat]
  · obtain ⟨i, k, m⟩ := x
    obtain ⟨hx1, hx2, hx3⟩ := hx
    dsimp only at hx1 hx2 hx3
    refine run_den 400 ?_
    try simp (disch := omega) only [go_sem, Nat.reduceEqDiff, Nat.reduceAdd, Nat.reduceSub, Int.reduceAdd, Int.reduceSub, Int.reduceToNat]
    split <;> rename_i h <;> (try simp only [beq_true, beq_false, Bool.not_eq_true', Bool.not_eq_false'] at h) <;> simp (disch := omega) only [go_sem, Nat.reduceEqDiff, Nat.reduceAdd, Nat.reduceSub, Int.reduceAdd, Int.reduceSub, Int.reduceToNat, h] <;> (try simp only [decide_eq_true_eq, decide_eq_false_iff_not, beq_iff_eq, beq_eq_false_iff_ne, bne_iff_ne, bne_eq_false_iff_eq, ne_eq, Decidable.not_not, Bool.and_eq_true, Bool.and_eq_false_iff, Bool.or_eq_true, Bool.or_eq_false_iff, Int.ofNat_lt, Int.ofNat_le, Bool.not_eq_eq_eq_not, Bool.not_true, Bool.not_false] at h) <;> try simp (disch := omega) only [go_sem, Nat.reduceEqDiff, Nat.reduceAdd, Nat.reduceSub, Int.reduceAdd, Int.reduceSub, Int.reduceToNat]
    · have hi : i < m.length := by omega
      try simp (disch := omega) only [go_sem, Nat.reduceEqDiff, Nat.reduceAdd, Nat.reduceSub, Int.reduceAdd, Int.reduceSub, Int.reduceToNat, map_get hi, strs_get hi]
      refine ⟨by (try simp (disch := omega) only [go_sem, Nat.reduceEqDiff, Nat.reduceAdd, Nat.reduceSub, Int.reduceAdd, Int.reduceSub, Int.reduceToNat]) <;> omega, hN _ (i + 1, k + 1 + 1 + 1 + 1, m.set i (⟨k, k + 1, ((k + 1 + 1).tmod 3 == 0), ((k + 1 + 1 + 1).tmod 3 == 0)⟩ : AddrD)) [some (0, none)] (by (try dsimp only); exact ⟨by omega, by simp; omega, by omega⟩) (by (try dsimp only); omega) (weak_mk (by rfl) (by rfl) ?_)⟩
      try simp (disch := omega) only [go_sem, Nat.reduceEqDiff, Nat.reduceAdd, Nat.reduceSub, Int.reduceAdd, Int.reduceSub, Int.reduceToNat]
      try exact ⟨by omega, map_set' rfl⟩
      try exact map_set' rfl
    · have e : i = l.length := by omega
      subst e
      refine den_fin [some (0, none)] (by (try simp (disch := omega) only [go_sem, Nat.reduceEqDiff, Nat.reduceAdd, Nat.reduceSub, Int.reduceAdd, Int.reduceSub, Int.reduceToNat]) <;> omega) _ (by simp only [go_sem]; rfl) (by rfl) (by rfl) ?_
      simp (disch := omega) only [go_sem, Nat.reduceEqDiff, Nat.reduceAdd, Nat.reduceSub, Int.reduceAdd, Int.reduceSub, Int.reduceToNat]
      try exact hx3
set_option maxHeartbeats 4000000 in
theorem laws_markHalfS (l : List HalfD) (k0 : Int) (hl : l.length ≤ 16777216) (h0 : 0 ≤ k0) (h1 : k0 ≤ 1099511627776) : CallA Try.prog 135 [.sc (.sl 0 0 l.length), .sc (.int .i64 k0)] [some ⟨l.map HalfD.cs, 8, 139, true, true⟩] (.sc (.int .i64 (k0 + 8 * (l.length : Int)))) [none] := by
  refine callA_of Try.func135 (by kernel_rfl) rfl fun E hE => run_den 400 ?_
  simp (disch := omega) only [Try.ntmps135, Try.results135, go_sem, Nat.reduceEqDiff, Nat.reduceAdd, Nat.reduceSub, Int.reduceAdd, Int.reduceSub, Int.reduceToNat]
  refine den_lp 1 hE (fun s (x : Nat × Int × List HalfD) => s.at [6, 7, 8, 9, 10, 11, 12, 13, 14, 15, 16, 17, 18, 19, 20, 21, 22, 23, 24, 25, 26, 27, 28, 29, 30, 31, 32, 33, 34, 35, 36, 37, 38, 39, 40, 41, 42, 43, 44, 45, 46, 47, 48, 49, 50, 51, 52, 53, 54, 55, 56, 57, 58, 59, 60, 61, 62, 63, 64, 65, 66, 67, 68, 69, 70] [(5, .sc (.int .i64 (x.1 : Nat))), (1, .sc (.int .i64 x.2.1))] ([some ⟨x.2.2.map HalfD.cs, 8, 139, true, true⟩])) (fun (x : Nat × Int × List HalfD) => x.1 ≤ l.length ∧ x.2.2.length = l.length ∧ x.2.1 = k0 + 8 * (x.1 : Int)) (fun (x : Nat × Int × List HalfD) => l.length - x.1) (0, k0, l) [some (0, none)] (by (try simp (disch := omega) only [go_sem, Nat.reduceEqDiff, Nat.reduceAdd, Nat.reduceSub, Int.reduceAdd, Int.reduceSub, Int.reduceToNat]) <;> omega) (⟨Nat.zero_le _, rfl, by simp⟩) (weak_mk (by rfl) (by rfl) ?_) fun x hx N hN => ?_
  · try simp (disch := omega) only [go_sem, Nat.reduceEqDiff, Nat.reduceAdd, Nat.reduceSub, Int.reduceAdd, Int.reduceSub, Int.reduceToNat]
  · obtain ⟨i, k, m⟩ := x
    obtain ⟨hx1, hx2, hx3⟩ := hx
    dsimp only at hx1 hx2 hx3
    refine run_den 400 ?_
    try simp (disch := omega) only [go_sem, Nat.reduceEqDiff, Nat.reduceAdd, Nat.reduceSub, Int.reduceAdd, Int.reduceSub, Int.reduceToNat]
    split <;> rename_i h <;> (try simp only [beq_true, beq_false, Bool.not_eq_true', Bool.not_eq_false'] at h) <;> simp (disch := omega) only [go_sem, Nat.reduceEqDiff, Nat.reduceAdd, Nat.reduceSub, Int.reduceAdd, Int.reduceSub, Int.reduceToNat, h] <;> (try simp only [decide_eq_true_eq, decide_eq_false_iff_not, beq_iff_eq, beq_eq_false_iff_ne, bne_iff_ne, bne_eq_false_iff_eq, ne_eq, Decidable.not_not, Bool.and_eq_true, Bool.and_eq_false_iff, Bool.or_eq_true, Bool.or_eq_false_iff, Int.ofNat_lt, Int.ofNat_le, Bool.not_eq_eq_eq_not, Bool.not_true, Bool.not_false] at h) <;> try simp (disch := omega) only [go_sem, Nat.reduceEqDiff, Nat.reduceAdd, Nat.reduceSub, Int.reduceAdd, Int.reduceSub, Int.reduceToNat]
    · have hi : i < m.length := by omega
      try simp (disch := omega) only [go_sem, Nat.reduceEqDiff, Nat.reduceAdd, Nat.reduceSub, Int.reduceAdd, Int.reduceSub, Int.reduceToNat, map_get hi, strs_get hi]
      refine ⟨by (try simp (disch := omega) only [go_sem, Nat.reduceEqDiff, Nat.reduceAdd, Nat.reduceSub, Int.reduceAdd, Int.reduceSub, Int.reduceToNat]) <;> omega, hN _ (i + 1, k + 1 + 1 + 1 + 1 + 1 + 1 + 1 + 1, m.set i (⟨⟨k, k + 1, k + 1 + 1⟩, k + 1 + 1 + 1, k + 1 + 1 + 1 + 1, k + 1 + 1 + 1 + 1 + 1, k + 1 + 1 + 1 + 1 + 1 + 1, k + 1 + 1 + 1 + 1 + 1 + 1 + 1⟩ : HalfD)) [some (0, none)] (by (try dsimp only); exact ⟨by omega, by simp; omega, by omega⟩) (by (try dsimp only); omega) (weak_mk (by rfl) (by rfl) ?_)⟩
      try simp (disch := omega) only [go_sem, Nat.reduceEqDiff, Nat.reduceAdd, Nat.reduceSub, Int.reduceAdd, Int.reduceSub, Int.reduceToNat]
      try exact ⟨by omega, map_set' rfl⟩
      try exact map_set' rfl
    · have e : i = l.length := by omega
      subst e
      refine den_fin [some (0, none)] (by (try simp (disch := omega) only [go_sem, Nat.reduceEqDiff, Nat.reduceAdd, Nat.reduceSub, Int.reduceAdd, Int.reduceSub, Int.reduceToNat]) <;> omega) _ (by simp only [go_sem]; rfl) (by rfl) (by rfl) ?_
      simp (disch := omega) only [go_sem, Nat.reduceEqDiff, Nat.reduceAdd, Nat.reduceSub, Int.reduceAdd, Int.reduceSub, Int.reduceToNat]
      try exact hx3
set_option maxHeartbeats 4000000 in
theorem laws_markTagS (l : List TagD) (k0 : Int) (hl : l.length ≤ 16777216) (h0 : 0 ≤ k0) (h1 : k0 ≤ 1099511627776) : CallA Try.prog 222 [.sc (.sl 0 0 l.length), .sc (.int .i64 k0)] [some ⟨l.map TagD.cs, 5, 28, true, true⟩] (.sc (.int .i64 (k0 + 5 * (l.length : Int)))) [none] := by
  refine callA_of Try.func222 (by kernel_rfl) rfl fun E hE => run_den 400 ?_
  simp (disch := omega) only [Try.ntmps222, Try.results222, go_sem, Nat.reduceEqDiff, Nat.reduceAdd, Nat.reduceSub, Int.reduceAdd, Int.reduceSub, Int.reduceToNat]
  refine den_lp 1 hE (fun s (x : Nat × Int × List TagD) => s.at [6, 7, 8, 9, 10, 11, 12, 13, 14, 15, 16, 17, 18, 19, 20, 21, 22, 23, 24, 25, 26, 27, 28, 29, 30, 31, 32, 33, 34, 35, 36, 37, 38, 39, 40, 41, 42, 43, 44, 45, 46] [(5, .sc (.int .i64 (x.1 : Nat))), (1, .sc (.int .i64 x.2.1))] ([some ⟨x.2.2.map TagD.cs, 5, 28, true, true⟩])) (fun (x : Nat × Int × List TagD) => x.1 ≤ l.length ∧ x.2.2.length = l.length ∧ x.2.1 = k0 + 5 * (x.1 : Int)) (fun (x : Nat × Int × List TagD) => l.length - x.1) (0, k0, l) [some (0, none)] (by (try simp (disch := omega) only [go_sem, Nat.reduceEqDiff, Nat.reduceAdd, Nat.reduceSub, Int.reduceAdd, Int.reduceSub, Int.reduceToNat]) <;> omega) (⟨Nat.zero_le _, rfl, by simp⟩) (weak_mk (by rfl) (by rfl) ?_) fun x hx N hN => ?_
  · try simp (disch := omega) only [go_sem, Nat.reduceEqDiff, Nat.reduceAdd, Nat.reduceSub, Int.reduceAdd, Int.reduceSub, Int.reduceToNat]
  · obtain ⟨i, k, m⟩ := x
    obtain ⟨hx1, hx2, hx3⟩ := hx
    dsimp only at hx1 hx2 hx3
    refine run_den 400 ?_
    try simp (disch := omega) only [go_sem, Nat.reduceEqDiff, Nat.reduceAdd, Nat.reduceSub, Int.reduceAdd, Int.reduceSub, Int.reduceToNat]
    split <;> rename_i h <;> (try simp only [beq_true, beq_false, Bool.not_eq_true', Bool.not_eq_false'] at h) <;> simp (disch := omega) only [go_sem, Nat.reduceEqDiff, Nat.reduceAdd, Nat.reduceSub, Int.reduceAdd, Int.reduceSub, Int.reduceToNat, h] <;> (try simp only [decide_eq_true_eq, decide_eq_false_iff_not, beq_iff_eq, beq_eq_false_iff_ne, bne_iff_ne, bne_eq_false_iff_eq, ne_eq, Decidable.not_not, Bool.and_eq_true, Bool.and_eq_false_iff, Bool.or_eq_true, Bool.or_eq_false_iff, Int.ofNat_lt, Int.ofNat_le, Bool.not_eq_eq_eq_not, Bool.not_true, Bool.not_false] at h) <;> try simp (disch := omega) only [go_sem, Nat.reduceEqDiff, Nat.reduceAdd, Nat.reduceSub, Int.reduceAdd, Int.reduceSub, Int.reduceToNat]
    · have hi : i < m.length := by omega
      try simp (disch := omega) only [go_sem, Nat.reduceEqDiff, Nat.reduceAdd, Nat.reduceSub, Int.reduceAdd, Int.reduceSub, Int.reduceToNat, map_get hi, strs_get hi]
      refine ⟨by (try simp (disch := omega) only [go_sem, Nat.reduceEqDiff, Nat.reduceAdd, Nat.reduceSub, Int.reduceAdd, Int.reduceSub, Int.reduceToNat]) <;> omega, hN _ (i + 1, k + 1 + 1 + 1 + 1 + 1, m.set i (⟨k, k + 1, k + 1 + 1, k + 1 + 1 + 1, k + 1 + 1 + 1 + 1⟩ : TagD)) [some (0, none)] (by (try dsimp only); exact ⟨by omega, by simp; omega, by omega⟩) (by (try dsimp only); omega) (weak_mk (by rfl) (by rfl) ?_)⟩
      try simp (disch := omega) only [go_sem, Nat.reduceEqDiff, Nat.reduceAdd, Nat.reduceSub, Int.reduceAdd, Int.reduceSub, Int.reduceToNat]
      try exact ⟨by omega, map_set' rfl⟩
      try exact map_set' rfl
    · have e : i = l.length := by omega
      subst e
      refine den_fin [some (0, none)] (by (try simp (disch := omega) only [go_sem, Nat.reduceEqDiff, Nat.reduceAdd, Nat.reduceSub, Int.reduceAdd, Int.reduceSub, Int.reduceToNat]) <;> omega) _ (by simp only [go_sem]; rfl) (by rfl) (by rfl) ?_
      simp (disch := omega) only [go_sem, Nat.reduceEqDiff, Nat.reduceAdd, Nat.reduceSub, Int.reduceAdd, Int.reduceSub, Int.reduceToNat]
      try exact hx3
set_option maxHeartbeats 4000000 in
theorem laws_markLetterS (l : List LetterD) (k0 : Int) (hl : l.length ≤ 16777216) (h0 : 0 ≤ k0) (h1 : k0 ≤ 1099511627776) : CallA Try.prog 168 [.sc (.sl 0 0 l.length), .sc (.int .i64 k0)] [some ⟨l.map LetterD.cs, 19, 30, true, true⟩] (.sc (.int .i64 (k0 + 19 * (l.length : Int)))) [none] := by
  refine callA_of Try.func168 (by kernel_rfl) rfl fun E hE => run_den 400 ?_
  simp (disch := omega) only [Try.ntmps168, Try.results168, go_sem, Nat.reduceEqDiff, Nat.reduceAdd, Nat.reduceSub, Int.reduceAdd, Int.reduceSub, Int.reduceToNat]
  refine den_lp 1 hE (fun s (x : Nat × Int × List LetterD) => s.at [6, 7, 8, 9, 10, 11, 12, 13, 14, 15, 16, 17, 18, 19, 20, 21, 22, 23, 24, 25, 26, 27, 28, 29, 30, 31, 32, 33, 34, 35, 36, 37, 38, 39, 40, 41, 42, 43, 44, 45, 46, 47, 48, 49, 50, 51, 52, 53, 54, 55, 56, 57, 58, 59, 60, 61, 62, 63, 64, 65, 66, 67, 68, 69, 70, 71, 72, 73, 74, 75, 76, 77, 78, 79, 80, 81, 82, 83, 84, 85, 86, 87, 88, 89, 90, 91, 92, 93, 94, 95, 96, 97, 98, 99, 100, 101, 102, 103, 104, 105, 106, 107, 108, 109, 110, 111, 112, 113, 114, 115, 116, 117, 118, 119, 120, 121, 122, 123, 124, 125, 126, 127, 128, 129, 130, 131, 132, 133, 134, 135, 136, 137, 138, 139, 140, 141, 142, 143, 144, 145, 146, 147, 148, 149, 150, 151, 152] [(5, .sc (.int .i64 (x.1 : Nat))), (1, .sc (.int .i64 x.2.1))] ([some ⟨x.2.2.map LetterD.cs, 19, 30, true, true⟩])) (fun (x : Nat × Int × List LetterD) => x.1 ≤ l.length ∧ x.2.2.length = l.length ∧ x.2.1 = k0 + 19 * (x.1 : Int)) (fun (x : Nat × Int × List LetterD) => l.length - x.1) (0, k0, l) [some (0, none)] (by (try simp (disch := omega) only [go_sem, Nat.reduceEqDiff, Nat.reduceAdd, Nat.reduceSub, Int.reduceAdd, Int.reduceSub, Int.reduceToNat]) <;> omega) (⟨Nat.zero_le _, rfl, by simp⟩) (weak_mk (by rfl) (by rfl) ?_) fun x hx N hN => ?_
  · try simp (disch := omega) only [go_sem, Nat.reduceEqDiff, Nat.reduceAdd, Nat.reduceSub, Int.reduceAdd, Int.reduceSub, Int.reduceToNat]
  · obtain ⟨i, k, m⟩ := x
    obtain ⟨hx1, hx2, hx3⟩ := hx
    dsimp only at hx1 hx2 hx3
    refine run_den 400 ?_
    try simp (disch := omega) only [go_sem, Nat.reduceEqDiff, Nat.reduceAdd, Nat.reduceSub, Int.reduceAdd, Int.reduceSub, Int.reduceToNat]
    split <;> rename_i h <;> (try simp only [beq_true, beq_false, Bool.not_eq_true', Bool.not_eq_false'] at h) <;> simp (disch := omega) only [go_sem, Nat.reduceEqDiff, Nat.reduceAdd, Nat.reduceSub, Int.reduceAdd, Int.reduceSub, Int.reduceToNat, h] <;> (try simp only [decide_eq_true_eq, decide_eq_false_iff_not, beq_iff_eq, beq_eq_false_iff_ne, bne_iff_ne, bne_eq_false_iff_eq, ne_eq, Decidable.not_not, Bool.and_eq_true, Bool.and_eq_false_iff, Bool.or_eq_true, Bool.or_eq_false_iff, Int.ofNat_lt, Int.ofNat_le, Bool.not_eq_eq_eq_not, Bool.not_true, Bool.not_false] at h) <;> try simp (disch := omega) only [go_sem, Nat.reduceEqDiff, Nat.reduceAdd, Nat.reduceSub, Int.reduceAdd, Int.reduceSub, Int.reduceToNat]
    · have hi : i < m.length := by omega
      try simp (disch := omega) only [go_sem, Nat.reduceEqDiff, Nat.reduceAdd, Nat.reduceSub, Int.reduceAdd, Int.reduceSub, Int.reduceToNat, map_get hi, strs_get hi]
      refine den_call (by (try simp (disch := omega) only [go_sem, Nat.reduceEqDiff, Nat.reduceAdd, Nat.reduceSub, Int.reduceAdd, Int.reduceSub, Int.reduceToNat]) <;> omega) (laws_markText (k + 1 + 1 + 1 + 1 + 1 + 1 + 1 + 1 + 1 + 1 + 1 + 1 + 1 + 1 + 1 + 1 + 1 + 1) (by omega)) [] (by simp only [go_sem]; repeat' first | rfl | constructor) (by rfl) (run_den 400 ?_)
      simp (disch := omega) only [go_sem, Nat.reduceEqDiff, Nat.reduceAdd, Nat.reduceSub, Int.reduceAdd, Int.reduceSub, Int.reduceToNat]
      refine ⟨by (try simp (disch := omega) only [go_sem, Nat.reduceEqDiff, Nat.reduceAdd, Nat.reduceSub, Int.reduceAdd, Int.reduceSub, Int.reduceToNat]) <;> omega, hN _ (i + 1, k + 1 + 1 + 1 + 1 + 1 + 1 + 1 + 1 + 1 + 1 + 1 + 1 + 1 + 1 + 1 + 1 + 1 + 1 + 1, m.set i (⟨k, k + 1, k + 1 + 1, k + 1 + 1 + 1, k + 1 + 1 + 1 + 1, k + 1 + 1 + 1 + 1 + 1, k + 1 + 1 + 1 + 1 + 1 + 1, k + 1 + 1 + 1 + 1 + 1 + 1 + 1, k + 1 + 1 + 1 + 1 + 1 + 1 + 1 + 1, ⟨k + 1 + 1 + 1 + 1 + 1 + 1 + 1 + 1 + 1, k + 1 + 1 + 1 + 1 + 1 + 1 + 1 + 1 + 1 + 1, k + 1 + 1 + 1 + 1 + 1 + 1 + 1 + 1 + 1 + 1 + 1, k + 1 + 1 + 1 + 1 + 1 + 1 + 1 + 1 + 1 + 1 + 1 + 1, k + 1 + 1 + 1 + 1 + 1 + 1 + 1 + 1 + 1 + 1 + 1 + 1 + 1⟩, k + 1 + 1 + 1 + 1 + 1 + 1 + 1 + 1 + 1 + 1 + 1 + 1 + 1 + 1, k + 1 + 1 + 1 + 1 + 1 + 1 + 1 + 1 + 1 + 1 + 1 + 1 + 1 + 1 + 1, ((k + 1 + 1 + 1 + 1 + 1 + 1 + 1 + 1 + 1 + 1 + 1 + 1 + 1 + 1 + 1 + 1).tmod 3 == 0), k + 1 + 1 + 1 + 1 + 1 + 1 + 1 + 1 + 1 + 1 + 1 + 1 + 1 + 1 + 1 + 1 + 1, markT (k + 1 + 1 + 1 + 1 + 1 + 1 + 1 + 1 + 1 + 1 + 1 + 1 + 1 + 1 + 1 + 1 + 1 + 1)⟩ : LetterD)) [some (0, none)] (by (try dsimp only); exact ⟨by omega, by simp; omega, by omega⟩) (by (try dsimp only); omega) (weak_mk (by rfl) (by rfl) ?_)⟩
      try simp (disch := omega) only [go_sem, Nat.reduceEqDiff, Nat.reduceAdd, Nat.reduceSub, Int.reduceAdd, Int.reduceSub, Int.reduceToNat]
      try exact ⟨by omega, map_set' rfl⟩
      try exact map_set' rfl
    · have e : i = l.length := by omega
      subst e
      refine den_fin [some (0, none)] (by (try simp (disch := omega) only [go_sem, Nat.reduceEqDiff, Nat.reduceAdd, Nat.reduceSub, Int.reduceAdd, Int.reduceSub, Int.reduceToNat]) <;> omega) _ (by simp only [go_sem]; rfl) (by rfl) (by rfl) ?_
      simp (disch := omega) only [go_sem, Nat.reduceEqDiff, Nat.reduceAdd, Nat.reduceSub, Int.reduceAdd, Int.reduceSub, Int.reduceToNat]
      try exact hx3
set_option maxHeartbeats 4000000 in
theorem laws_markSubS (l : List SubD) (k0 : Int) (hl : l.length ≤ 16777216) (h0 : 0 ≤ k0) (h1 : k0 ≤ 1099511627776) : CallA Try.prog 134 [.sc (.sl 0 0 l.length), .sc (.int .i64 k0)] [some ⟨l.map SubD.cs, 10, 155, true, true⟩] (.sc (.int .i64 (k0 + 10 * (l.length : Int)))) [none] := by
  refine callA_of Try.func134 (by kernel_rfl) rfl fun E hE => run_den 400 ?_
  simp (disch := omega) only [Try.ntmps134, Try.results134, go_sem, Nat.reduceEqDiff, Nat.reduceAdd, Nat.reduceSub, Int.reduceAdd, Int.reduceSub, Int.reduceToNat]
  refine den_lp 1 hE (fun s (x : Nat × Int × List SubD) => s.at [6, 7, 8, 9, 10, 11, 12, 13, 14, 15, 16, 17, 18, 19, 20, 21, 22, 23, 24, 25, 26, 27, 28, 29, 30, 31, 32, 33, 34, 35, 36, 37, 38, 39, 40, 41, 42, 43, 44, 45, 46, 47, 48, 49, 50, 51, 52, 53, 54, 55, 56, 57, 58, 59, 60, 61, 62, 63, 64, 65, 66, 67, 68, 69, 70, 71, 72, 73, 74, 75, 76, 77, 78, 79, 80, 81, 82, 83, 84, 85, 86] [(5, .sc (.int .i64 (x.1 : Nat))), (1, .sc (.int .i64 x.2.1))] ([some ⟨x.2.2.map SubD.cs, 10, 155, true, true⟩])) (fun (x : Nat × Int × List SubD) => x.1 ≤ l.length ∧ x.2.2.length = l.length ∧ x.2.1 = k0 + 10 * (x.1 : Int)) (fun (x : Nat × Int × List SubD) => l.length - x.1) (0, k0, l) [some (0, none)] (by (try simp (disch := omega) only [go_sem, Nat.reduceEqDiff, Nat.reduceAdd, Nat.reduceSub, Int.reduceAdd, Int.reduceSub, Int.reduceToNat]) <;> omega) (⟨Nat.zero_le _, rfl, by simp⟩) (weak_mk (by rfl) (by rfl) ?_) fun x hx N hN => ?_
  · try simp (disch := omega) only [go_sem, Nat.reduceEqDiff, Nat.reduceAdd, Nat.reduceSub, Int.reduceAdd, Int.reduceSub, Int.reduceToNat]
  · obtain ⟨i, k, m⟩ := x
    obtain ⟨hx1, hx2, hx3⟩ := hx
    dsimp only at hx1 hx2 hx3
    refine run_den 400 ?_
    try simp (disch := omega) only [go_sem, Nat.reduceEqDiff, Nat.reduceAdd, Nat.reduceSub, Int.reduceAdd, Int.reduceSub, Int.reduceToNat]
    split <;> rename_i h <;> (try simp only [beq_true, beq_false, Bool.not_eq_true', Bool.not_eq_false'] at h) <;> simp (disch := omega) only [go_sem, Nat.reduceEqDiff, Nat.reduceAdd, Nat.reduceSub, Int.reduceAdd, Int.reduceSub, Int.reduceToNat, h] <;> (try simp only [decide_eq_true_eq, decide_eq_false_iff_not, beq_iff_eq, beq_eq_false_iff_ne, bne_iff_ne, bne_eq_false_iff_eq, ne_eq, Decidable.not_not, Bool.and_eq_true, Bool.and_eq_false_iff, Bool.or_eq_true, Bool.or_eq_false_iff, Int.ofNat_lt, Int.ofNat_le, Bool.not_eq_eq_eq_not, Bool.not_true, Bool.not_false] at h) <;> try simp (disch := omega) only [go_sem, Nat.reduceEqDiff, Nat.reduceAdd, Nat.reduceSub, Int.reduceAdd, Int.reduceSub, Int.reduceToNat]
    · have hi : i < m.length := by omega
      try simp (disch := omega) only [go_sem, Nat.reduceEqDiff, Nat.reduceAdd, Nat.reduceSub, Int.reduceAdd, Int.reduceSub, Int.reduceToNat, map_get hi, strs_get hi]
      refine ⟨by (try simp (disch := omega) only [go_sem, Nat.reduceEqDiff, Nat.reduceAdd, Nat.reduceSub, Int.reduceAdd, Int.reduceSub, Int.reduceToNat]) <;> omega, hN _ (i + 1, k + 1 + 1 + 1 + 1 + 1 + 1 + 1 + 1 + 1 + 1, m.set i (⟨⟨k, k + 1, k + 1 + 1⟩, k + 1 + 1 + 1, ((k + 1 + 1 + 1 + 1).tmod 3 == 0), k + 1 + 1 + 1 + 1 + 1, k + 1 + 1 + 1 + 1 + 1 + 1, k + 1 + 1 + 1 + 1 + 1 + 1 + 1, k + 1 + 1 + 1 + 1 + 1 + 1 + 1 + 1, k + 1 + 1 + 1 + 1 + 1 + 1 + 1 + 1 + 1⟩ : SubD)) [some (0, none)] (by (try dsimp only); exact ⟨by omega, by simp; omega, by omega⟩) (by (try dsimp only); omega) (weak_mk (by rfl) (by rfl) ?_)⟩
      try simp (disch := omega) only [go_sem, Nat.reduceEqDiff, Nat.reduceAdd, Nat.reduceSub, Int.reduceAdd, Int.reduceSub, Int.reduceToNat]
      try exact ⟨by omega, map_set' rfl⟩
      try exact map_set' rfl
    · have e : i = l.length := by omega
      subst e
      refine den_fin [some (0, none)] (by (try simp (disch := omega) only [go_sem, Nat.reduceEqDiff, Nat.reduceAdd, Nat.reduceSub, Int.reduceAdd, Int.reduceSub, Int.reduceToNat]) <;> omega) _ (by simp only [go_sem]; rfl) (by rfl) (by rfl) ?_
      simp (disch := omega) only [go_sem, Nat.reduceEqDiff, Nat.reduceAdd, Nat.reduceSub, Int.reduceAdd, Int.reduceSub, Int.reduceToNat]
      try exact hx3
set_option maxHeartbeats 4000000 in
theorem laws_markPieceS (l : List PieceD) (k0 : Int) (hl : l.length ≤ 16777216) (h0 : 0 ≤ k0) (h1 : k0 ≤ 1099511627776) : CallA Try.prog 191 [.sc (.sl 0 0 l.length), .sc (.int .i64 k0)] [some ⟨l.map PieceD.cs, 2, 231, true, true⟩] (.sc (.int .i64 (k0 + 2 * (l.length : Int)))) [none] := by
  refine callA_of Try.func191 (by kernel_rfl) rfl fun E hE => run_den 400 ?_
  simp (disch := omega) only [Try.ntmps191, Try.results191, go_sem, Nat.reduceEqDiff, Nat.reduceAdd, Nat.reduceSub, Int.reduceAdd, Int.reduceSub, Int.reduceToNat]
  refine den_lp 1 hE (fun s (x : Nat × Int × List PieceD) => s.at [6, 7, 8, 9, 10, 11, 12, 13, 14, 15, 16, 17, 18, 19, 20, 21, 22, 23, 24, 25, 26] [(5, .sc (.int .i64 (x.1 : Nat))), (1, .sc (.int .i64 x.2.1))] ([some ⟨x.2.2.map PieceD.cs, 2, 231, true, true⟩])) (fun (x : Nat × Int × List PieceD) => x.1 ≤ l.length ∧ x.2.2.length = l.length ∧ x.2.1 = k0 + 2 * (x.1 : Int)) (fun (x : Nat × Int × List PieceD) => l.length - x.1) (0, k0, l) [some (0, none)] (by (try simp (disch := omega) only [go_sem, Nat.reduceEqDiff, Nat.reduceAdd, Nat.reduceSub, Int.reduceAdd, Int.reduceSub, Int.reduceToNat]) <;> omega) (⟨Nat.zero_le _, rfl, by simp⟩) (weak_mk (by rfl) (by rfl) ?_) fun x hx N hN => ?_
  · try simp (disch := omega) only [go_sem, Nat.reduceEqDiff, Nat.reduceAdd, Nat.reduceSub, Int.reduceAdd, Int.reduceSub, Int.reduceToNat]
  · obtain ⟨i, k, m⟩ := x
    obtain ⟨hx1, hx2, hx3⟩ := hx
    dsimp only at hx1 hx2 hx3
    refine run_den 400 ?_
    try simp (disch := omega) only [go_sem, Nat.reduceEqDiff, Nat.reduceAdd, Nat.reduceSub, Int.reduceAdd, Int.reduceSub, Int.reduceToNat]
    split <;> rename_i h <;> (try simp only [beq_true, beq_false, Bool.not_eq_true', Bool.not_eq_false'] at h) <;> simp (disch := omega) only [go_sem, Nat.reduceEqDiff, Nat.reduceAdd, Nat.reduceSub, Int.reduceAdd, Int.reduceSub, Int.reduceToNat, h] <;> (try simp only [decide_eq_true_eq, decide_eq_false_iff_not, beq_iff_eq, beq_eq_false_iff_ne, bne_iff_ne, bne_eq_false_iff_eq, ne_eq, Decidable.not_not, Bool.and_eq_true, Bool.and_eq_false_iff, Bool.or_eq_true, Bool.or_eq_false_iff, Int.ofNat_lt, Int.ofNat_le, Bool.not_eq_eq_eq_not, Bool.not_true, Bool.not_false] at h) <;> try simp (disch := omega) only [go_sem, Nat.reduceEqDiff, Nat.reduceAdd, Nat.reduceSub, Int.reduceAdd, Int.reduceSub, Int.reduceToNat]
    · have hi : i < m.length := by omega
      try simp (disch := omega) only [go_sem, Nat.reduceEqDiff, Nat.reduceAdd, Nat.reduceSub, Int.reduceAdd, Int.reduceSub, Int.reduceToNat, map_get hi, strs_get hi]
      refine den_call (by (try simp (disch := omega) only [go_sem, Nat.reduceEqDiff, Nat.reduceAdd, Nat.reduceSub, Int.reduceAdd, Int.reduceSub, Int.reduceToNat]) <;> omega) (laws_markText (k + 1) (by omega)) [] (by simp only [go_sem]; repeat' first | rfl | constructor) (by rfl) (run_den 400 ?_)
      simp (disch := omega) only [go_sem, Nat.reduceEqDiff, Nat.reduceAdd, Nat.reduceSub, Int.reduceAdd, Int.reduceSub, Int.reduceToNat]
      refine ⟨by (try simp (disch := omega) only [go_sem, Nat.reduceEqDiff, Nat.reduceAdd, Nat.reduceSub, Int.reduceAdd, Int.reduceSub, Int.reduceToNat]) <;> omega, hN _ (i + 1, k + 1 + 1, m.set i (⟨k, markT (k + 1)⟩ : PieceD)) [some (0, none)] (by (try dsimp only); exact ⟨by omega, by simp; omega, by omega⟩) (by (try dsimp only); omega) (weak_mk (by rfl) (by rfl) ?_)⟩
      try simp (disch := omega) only [go_sem, Nat.reduceEqDiff, Nat.reduceAdd, Nat.reduceSub, Int.reduceAdd, Int.reduceSub, Int.reduceToNat]
      try exact ⟨by omega, map_set' rfl⟩
      try exact map_set' rfl
    · have e : i = l.length := by omega
      subst e
      refine den_fin [some (0, none)] (by (try simp (disch := omega) only [go_sem, Nat.reduceEqDiff, Nat.reduceAdd, Nat.reduceSub, Int.reduceAdd, Int.reduceSub, Int.reduceToNat]) <;> omega) _ (by simp only [go_sem]; rfl) (by rfl) (by rfl) ?_
      simp (disch := omega) only [go_sem, Nat.reduceEqDiff, Nat.reduceAdd, Nat.reduceSub, Int.reduceAdd, Int.reduceSub, Int.reduceToNat]
      try exact hx3
set_option maxHeartbeats 4000000 in
theorem laws_markPiecesE (x : PiecesD) (k0 : Int) (l0 : x.list.length ≤ 1048576) (h0 : 0 ≤ k0) (h1 : k0 ≤ 549755813888) : CallA Try.prog 136 [.ag (x.cs 0), .sc (.int .i64 k0)] (x.hp true) (.sc (.int .i64 (k0 + 2 * (x.list.length : Int)))) [none] := by
  refine callA_of Try.func136 (by kernel_rfl) rfl fun E hE => run_den 400 ?_
  simp (disch := omega) only [Try.ntmps136, Try.results136, go_sem, Nat.reduceEqDiff, Nat.reduceAdd, Nat.reduceSub, Int.reduceAdd, Int.reduceSub, Int.reduceToNat]
  refine den_call (by (try simp (disch := omega) only [go_sem, Nat.reduceEqDiff, Nat.reduceAdd, Nat.reduceSub, Int.reduceAdd, Int.reduceSub, Int.reduceToNat]) <;> omega) (laws_markPieceS x.list (k0) (by omega) (by omega) (by omega)) [some (0, none)] (by simp only [go_sem]; repeat' first | rfl | constructor) (by rfl) (run_den 400 ?_)
  simp (disch := omega) only [go_sem, Nat.reduceEqDiff, Nat.reduceAdd, Nat.reduceSub, Int.reduceAdd, Int.reduceSub, Int.reduceToNat]
  refine den_fin [some (0, none)] (by (try simp (disch := omega) only [go_sem, Nat.reduceEqDiff, Nat.reduceAdd, Nat.reduceSub, Int.reduceAdd, Int.reduceSub, Int.reduceToNat]) <;> omega) _ (by simp only [go_sem]; rfl) (by rfl) (by rfl) ?_
  simp (disch := omega) only [go_sem, Nat.reduceEqDiff, Nat.reduceAdd, Nat.reduceSub, Int.reduceAdd, Int.reduceSub, Int.reduceToNat]
  try omega
set_option maxHeartbeats 4000000 in
theorem laws_markKnownE (x : KnownD) (k0 : Int) (l0 : x.keys.length ≤ 1048576) (l1 : x.tags.length ≤ 1048576) (h0 : 0 ≤ k0) (h1 : k0 ≤ 549755813888) : CallA Try.prog 169 [.ag (x.cs 0), .sc (.int .i64 k0)] (x.hp true) (.sc (.int .i64 (k0 + 1 * (x.keys.length : Int) + 5 * (x.tags.length : Int)))) [none, none] := by
  refine callA_of Try.func169 (by kernel_rfl) rfl fun E hE => run_den 400 ?_
  simp (disch := omega) only [Try.ntmps169, Try.results169, go_sem, Nat.reduceEqDiff, Nat.reduceAdd, Nat.reduceSub, Int.reduceAdd, Int.reduceSub, Int.reduceToNat]
  refine den_call (by (try simp (disch := omega) only [go_sem, Nat.reduceEqDiff, Nat.reduceAdd, Nat.reduceSub, Int.reduceAdd, Int.reduceSub, Int.reduceToNat]) <;> omega) (laws_markIntS x.keys (k0) (by omega) (by omega) (by omega)) [some (0, none)] (by simp only [go_sem]; repeat' first | rfl | constructor) (by rfl) (run_den 400 ?_)
  simp (disch := omega) only [go_sem, Nat.reduceEqDiff, Nat.reduceAdd, Nat.reduceSub, Int.reduceAdd, Int.reduceSub, Int.reduceToNat]
  refine den_call (by (try simp (disch := omega) only [go_sem, Nat.reduceEqDiff, Nat.reduceAdd, Nat.reduceSub, Int.reduceAdd, Int.reduceSub, Int.reduceToNat]) <;> omega) (laws_markTagS x.tags (k0 + 1 * (x.keys.length : Int)) (by omega) (by omega) (by omega)) [some (1, none)] (by simp only [go_sem]; repeat' first | rfl | constructor) (by rfl) (run_den 400 ?_)
  simp (disch := omega) only [go_sem, Nat.reduceEqDiff, Nat.reduceAdd, Nat.reduceSub, Int.reduceAdd, Int.reduceSub, Int.reduceToNat]
  refine den_fin [some (0, none), some (1, none)] (by (try simp (disch := omega) only [go_sem, Nat.reduceEqDiff, Nat.reduceAdd, Nat.reduceSub, Int.reduceAdd, Int.reduceSub, Int.reduceToNat]) <;> omega) _ (by simp only [go_sem]; rfl) (by rfl) (by rfl) ?_
  simp (disch := omega) only [go_sem, Nat.reduceEqDiff, Nat.reduceAdd, Nat.reduceSub, Int.reduceAdd, Int.reduceSub, Int.reduceToNat]
  try omega
set_option maxHeartbeats 4000000 in
theorem laws_markEndE (x : EndD) (k0 : Int) (l0 : x.own.length ≤ 1048576) (l1 : x.far.length ≤ 1048576) (l2 : x.subs.length ≤ 1048576) (l3 : x.halfs.length ≤ 1048576) (l4 : x.inp.list.length ≤ 1048576) (l5 : x.done.length ≤ 1048576) (l6 : x.over.length ≤ 1048576) (h0 : 0 ≤ k0) (h1 : k0 ≤ 274877906944) : CallA Try.prog 48 [.ag (x.cs 0), .sc (.int .i64 k0)] (x.hp true) (.sc (.int .i64 (k0 + 4 * (x.own.length : Int) + 4 * (x.far.length : Int) + 10 * (x.subs.length : Int) + 8 * (x.halfs.length : Int) + 2 * (x.inp.list.length : Int) + 1 * (x.done.length : Int) + 1 * (x.over.length : Int)))) [none, none, none, none, none, none, none] := by
  refine callA_of Try.func48 (by kernel_rfl) rfl fun E hE => run_den 400 ?_
  simp (disch := omega) only [Try.ntmps48, Try.results48, go_sem, Nat.reduceEqDiff, Nat.reduceAdd, Nat.reduceSub, Int.reduceAdd, Int.reduceSub, Int.reduceToNat]
  refine den_call (by (try simp (disch := omega) only [go_sem, Nat.reduceEqDiff, Nat.reduceAdd, Nat.reduceSub, Int.reduceAdd, Int.reduceSub, Int.reduceToNat]) <;> omega) (laws_markAddrS x.own (k0) (by omega) (by omega) (by omega)) [some (0, none)] (by simp only [go_sem]; repeat' first | rfl | constructor) (by rfl) (run_den 400 ?_)
  simp (disch := omega) only [go_sem, Nat.reduceEqDiff, Nat.reduceAdd, Nat.reduceSub, Int.reduceAdd, Int.reduceSub, Int.reduceToNat]
  refine den_call (by (try simp (disch := omega) only [go_sem, Nat.reduceEqDiff, Nat.reduceAdd, Nat.reduceSub, Int.reduceAdd, Int.reduceSub, Int.reduceToNat]) <;> omega) (laws_markAddrS x.far (k0 + 4 * (x.own.length : Int)) (by omega) (by omega) (by omega)) [some (1, none)] (by simp only [go_sem]; repeat' first | rfl | constructor) (by rfl) (run_den 400 ?_)
  simp (disch := omega) only [go_sem, Nat.reduceEqDiff, Nat.reduceAdd, Nat.reduceSub, Int.reduceAdd, Int.reduceSub, Int.reduceToNat]
  refine den_call (by (try simp (disch := omega) only [go_sem, Nat.reduceEqDiff, Nat.reduceAdd, Nat.reduceSub, Int.reduceAdd, Int.reduceSub, Int.reduceToNat]) <;> omega) (laws_markSubS x.subs (k0 + 4 * (x.own.length : Int) + 4 * (x.far.length : Int)) (by omega) (by omega) (by omega)) [some (2, none)] (by simp only [go_sem]; repeat' first | rfl | constructor) (by rfl) (run_den 400 ?_)
  simp (disch := omega) only [go_sem, Nat.reduceEqDiff, Nat.reduceAdd, Nat.reduceSub, Int.reduceAdd, Int.reduceSub, Int.reduceToNat]
  refine den_call (by (try simp (disch := omega) only [go_sem, Nat.reduceEqDiff, Nat.reduceAdd, Nat.reduceSub, Int.reduceAdd, Int.reduceSub, Int.reduceToNat]) <;> omega) (laws_markHalfS x.halfs (k0 + 4 * (x.own.length : Int) + 4 * (x.far.length : Int) + 10 * (x.subs.length : Int)) (by omega) (by omega) (by omega)) [some (3, none)] (by simp only [go_sem]; repeat' first | rfl | constructor) (by rfl) (run_den 400 ?_)
  simp (disch := omega) only [go_sem, Nat.reduceEqDiff, Nat.reduceAdd, Nat.reduceSub, Int.reduceAdd, Int.reduceSub, Int.reduceToNat]
  refine den_call (by (try simp (disch := omega) only [go_sem, Nat.reduceEqDiff, Nat.reduceAdd, Nat.reduceSub, Int.reduceAdd, Int.reduceSub, Int.reduceToNat]) <;> omega) (laws_markPiecesE x.inp (k0 + 4 * (x.own.length : Int) + 4 * (x.far.length : Int) + 10 * (x.subs.length : Int) + 8 * (x.halfs.length : Int)) l4 (by omega) (by omega)) [some (4, none)] (by simp only [go_sem]; repeat' first | rfl | constructor) (by rfl) (run_den 400 ?_)
  simp (disch := omega) only [go_sem, Nat.reduceEqDiff, Nat.reduceAdd, Nat.reduceSub, Int.reduceAdd, Int.reduceSub, Int.reduceToNat]
  refine den_call (by (try simp (disch := omega) only [go_sem, Nat.reduceEqDiff, Nat.reduceAdd, Nat.reduceSub, Int.reduceAdd, Int.reduceSub, Int.reduceToNat]) <;> omega) (laws_markIntS x.done (k0 + 4 * (x.own.length : Int) + 4 * (x.far.length : Int) + 10 * (x.subs.length : Int) + 8 * (x.halfs.length : Int) + 2 * (x.inp.list.length : Int)) (by omega) (by omega) (by omega)) [some (5, none)] (by simp only [go_sem]; repeat' first | rfl | constructor) (by rfl) (run_den 400 ?_)
  simp (disch := omega) only [go_sem, Nat.reduceEqDiff, Nat.reduceAdd, Nat.reduceSub, Int.reduceAdd, Int.reduceSub, Int.reduceToNat]
  refine den_call (by (try simp (disch := omega) only [go_sem, Nat.reduceEqDiff, Nat.reduceAdd, Nat.reduceSub, Int.reduceAdd, Int.reduceSub, Int.reduceToNat]) <;> omega) (laws_markIntS x.over (k0 + 4 * (x.own.length : Int) + 4 * (x.far.length : Int) + 10 * (x.subs.length : Int) + 8 * (x.halfs.length : Int) + 2 * (x.inp.list.length : Int) + 1 * (x.done.length : Int)) (by omega) (by omega) (by omega)) [some (6, none)] (by simp only [go_sem]; repeat' first | rfl | constructor) (by rfl) (run_den 400 ?_)
  simp (disch := omega) only [go_sem, Nat.reduceEqDiff, Nat.reduceAdd, Nat.reduceSub, Int.reduceAdd, Int.reduceSub, Int.reduceToNat]
  refine den_fin [some (0, none), some (1, none), some (2, none), some (3, none), some (4, none), some (5, none), some (6, none)] (by (try simp (disch := omega) only [go_sem, Nat.reduceEqDiff, Nat.reduceAdd, Nat.reduceSub, Int.reduceAdd, Int.reduceSub, Int.reduceToNat]) <;> omega) _ (by simp only [go_sem]; rfl) (by rfl) (by rfl) ?_
  simp (disch := omega) only [go_sem, Nat.reduceEqDiff, Nat.reduceAdd, Nat.reduceSub, Int.reduceAdd, Int.reduceSub, Int.reduceToNat]
  try omega
set_option maxHeartbeats 4000000 in
theorem laws_markWorldE (x : WorldD) (k0 : Int) (l0 : x.a.own.length ≤ 1048576) (l1 : x.a.far.length ≤ 1048576) (l2 : x.a.subs.length ≤ 1048576) (l3 : x.a.halfs.length ≤ 1048576) (l4 : x.a.inp.list.length ≤ 1048576) (l5 : x.a.done.length ≤ 1048576) (l6 : x.a.over.length ≤ 1048576) (l7 : x.b.own.length ≤ 1048576) (l8 : x.b.far.length ≤ 1048576) (l9 : x.b.subs.length ≤ 1048576) (l10 : x.b.halfs.length ≤ 1048576) (l11 : x.b.inp.list.length ≤ 1048576) (l12 : x.b.done.length ≤ 1048576) (l13 : x.b.over.length ≤ 1048576) (l14 : x.bag.length ≤ 1048576) (l15 : x.past.length ≤ 1048576) (l16 : x.known.keys.length ≤ 1048576) (l17 : x.known.tags.length ≤ 1048576) (l18 : x.nums.length ≤ 1048576) (l19 : x.answersA.length ≤ 1048576) (l20 : x.answersB.length ≤ 1048576) (h0 : 0 ≤ k0) (h1 : k0 ≤ 137438953472) : CallA Try.prog 77 [.ag (x.cs 0), .sc (.int .i64 k0)] (x.hp true) (.sc (.int .i64 (k0 + 4 * (x.a.own.length : Int) + 4 * (x.a.far.length : Int) + 10 * (x.a.subs.length : Int) + 8 * (x.a.halfs.length : Int) + 2 * (x.a.inp.list.length : Int) + 1 * (x.a.done.length : Int) + 1 * (x.a.over.length : Int) + 4 * (x.b.own.length : Int) + 4 * (x.b.far.length : Int) + 10 * (x.b.subs.length : Int) + 8 * (x.b.halfs.length : Int) + 2 * (x.b.inp.list.length : Int) + 1 * (x.b.done.length : Int) + 1 * (x.b.over.length : Int) + 19 * (x.bag.length : Int) + 19 * (x.past.length : Int) + 1 * (x.known.keys.length : Int) + 5 * (x.known.tags.length : Int) + 1 * (x.nums.length : Int) + 1 * (x.answersA.length : Int) + 1 * (x.answersB.length : Int)))) [none, none, none, none, none, none, none, none, none, none, none, none, none, none, none, none, none, none, none, none, none] := by
  refine callA_of Try.func77 (by kernel_rfl) rfl fun E hE => run_den 400 ?_
  simp (disch := omega) only [Try.ntmps77, Try.results77, go_sem, Nat.reduceEqDiff, Nat.reduceAdd, Nat.reduceSub, Int.reduceAdd, Int.reduceSub, Int.reduceToNat]
  refine den_call (by (try simp (disch := omega) only [go_sem, Nat.reduceEqDiff, Nat.reduceAdd, Nat.reduceSub, Int.reduceAdd, Int.reduceSub, Int.reduceToNat]) <;> omega) (laws_markEndE x.a (k0) l0 l1 l2 l3 l4 l5 l6 (by omega) (by omega)) [some (0, none), some (1, none), some (2, none), some (3, none), some (4, none), some (5, none), some (6, none)] (by simp only [go_sem]; repeat' first | rfl | constructor) (by rfl) (run_den 400 ?_)
  simp (disch := omega) only [go_sem, Nat.reduceEqDiff, Nat.reduceAdd, Nat.reduceSub, Int.reduceAdd, Int.reduceSub, Int.reduceToNat]
  refine den_call (by (try simp (disch := omega) only [go_sem, Nat.reduceEqDiff, Nat.reduceAdd, Nat.reduceSub, Int.reduceAdd, Int.reduceSub, Int.reduceToNat]) <;> omega) (laws_markEndE x.b (k0 + 4 * (x.a.own.length : Int) + 4 * (x.a.far.length : Int) + 10 * (x.a.subs.length : Int) + 8 * (x.a.halfs.length : Int) + 2 * (x.a.inp.list.length : Int) + 1 * (x.a.done.length : Int) + 1 * (x.a.over.length : Int)) l7 l8 l9 l10 l11 l12 l13 (by omega) (by omega)) [some (7, none), some (8, none), some (9, none), some (10, none), some (11, none), some (12, none), some (13, none)] (by simp only [go_sem]; repeat' first | rfl | constructor) (by rfl) (run_den 400 ?_)
  simp (disch := omega) only [go_sem, Nat.reduceEqDiff, Nat.reduceAdd, Nat.reduceSub, Int.reduceAdd, Int.reduceSub, Int.reduceToNat]
  refine den_call (by (try simp (disch := omega) only [go_sem, Nat.reduceEqDiff, Nat.reduceAdd, Nat.reduceSub, Int.reduceAdd, Int.reduceSub, Int.reduceToNat]) <;> omega) (laws_markLetterS x.bag (k0 + 4 * (x.a.own.length : Int) + 4 * (x.a.far.length : Int) + 10 * (x.a.subs.length : Int) + 8 * (x.a.halfs.length : Int) + 2 * (x.a.inp.list.length : Int) + 1 * (x.a.done.length : Int) + 1 * (x.a.over.length : Int) + 4 * (x.b.own.length : Int) + 4 * (x.b.far.length : Int) + 10 * (x.b.subs.length : Int) + 8 * (x.b.halfs.length : Int) + 2 * (x.b.inp.list.length : Int) + 1 * (x.b.done.length : Int) + 1 * (x.b.over.length : Int)) (by omega) (by omega) (by omega)) [some (14, none)] (by simp only [go_sem]; repeat' first | rfl | constructor) (by rfl) (run_den 400 ?_)
  simp (disch := omega) only [go_sem, Nat.reduceEqDiff, Nat.reduceAdd, Nat.reduceSub, Int.reduceAdd, Int.reduceSub, Int.reduceToNat]
  refine den_call (by (try simp (disch := omega) only [go_sem, Nat.reduceEqDiff, Nat.reduceAdd, Nat.reduceSub, Int.reduceAdd, Int.reduceSub, Int.reduceToNat]) <;> omega) (laws_markLetterS x.past (k0 + 4 * (x.a.own.length : Int) + 4 * (x.a.far.length : Int) + 10 * (x.a.subs.length : Int) + 8 * (x.a.halfs.length : Int) + 2 * (x.a.inp.list.length : Int) + 1 * (x.a.done.length : Int) + 1 * (x.a.over.length : Int) + 4 * (x.b.own.length : Int) + 4 * (x.b.far.length : Int) + 10 * (x.b.subs.length : Int) + 8 * (x.b.halfs.length : Int) + 2 * (x.b.inp.list.length : Int) + 1 * (x.b.done.length : Int) + 1 * (x.b.over.length : Int) + 19 * (x.bag.length : Int)) (by omega) (by omega) (by omega)) [some (15, none)] (by simp only [go_sem]; repeat' first | rfl | constructor) (by rfl) (run_den 400 ?_)
  simp (disch := omega) only [go_sem, Nat.reduceEqDiff, Nat.reduceAdd, Nat.reduceSub, Int.reduceAdd, Int.reduceSub, Int.reduceToNat]
  refine den_call (by (try simp (disch := omega) only [go_sem, Nat.reduceEqDiff, Nat.reduceAdd, Nat.reduceSub, Int.reduceAdd, Int.reduceSub, Int.reduceToNat]) <;> omega) (laws_markKnownE x.known (k0 + 4 * (x.a.own.length : Int) + 4 * (x.a.far.length : Int) + 10 * (x.a.subs.length : Int) + 8 * (x.a.halfs.length : Int) + 2 * (x.a.inp.list.length : Int) + 1 * (x.a.done.length : Int) + 1 * (x.a.over.length : Int) + 4 * (x.b.own.length : Int) + 4 * (x.b.far.length : Int) + 10 * (x.b.subs.length : Int) + 8 * (x.b.halfs.length : Int) + 2 * (x.b.inp.list.length : Int) + 1 * (x.b.done.length : Int) + 1 * (x.b.over.length : Int) + 19 * (x.bag.length : Int) + 19 * (x.past.length : Int)) l16 l17 (by omega) (by omega)) [some (16, none), some (17, none)] (by simp only [go_sem]; repeat' first | rfl | constructor) (by rfl) (run_den 400 ?_)
  simp (disch := omega) only [go_sem, Nat.reduceEqDiff, Nat.reduceAdd, Nat.reduceSub, Int.reduceAdd, Int.reduceSub, Int.reduceToNat]
  refine den_call (by (try simp (disch := omega) only [go_sem, Nat.reduceEqDiff, Nat.reduceAdd, Nat.reduceSub, Int.reduceAdd, Int.reduceSub, Int.reduceToNat]) <;> omega) (laws_markIntS x.nums (k0 + 4 * (x.a.own.length : Int) + 4 * (x.a.far.length : Int) + 10 * (x.a.subs.length : Int) + 8 * (x.a.halfs.length : Int) + 2 * (x.a.inp.list.length : Int) + 1 * (x.a.done.length : Int) + 1 * (x.a.over.length : Int) + 4 * (x.b.own.length : Int) + 4 * (x.b.far.length : Int) + 10 * (x.b.subs.length : Int) + 8 * (x.b.halfs.length : Int) + 2 * (x.b.inp.list.length : Int) + 1 * (x.b.done.length : Int) + 1 * (x.b.over.length : Int) + 19 * (x.bag.length : Int) + 19 * (x.past.length : Int) + 1 * (x.known.keys.length : Int) + 5 * (x.known.tags.length : Int)) (by omega) (by omega) (by omega)) [some (18, none)] (by simp only [go_sem]; repeat' first | rfl | constructor) (by rfl) (run_den 400 ?_)
  simp (disch := omega) only [go_sem, Nat.reduceEqDiff, Nat.reduceAdd, Nat.reduceSub, Int.reduceAdd, Int.reduceSub, Int.reduceToNat]
  refine den_call (by (try simp (disch := omega) only [go_sem, Nat.reduceEqDiff, Nat.reduceAdd, Nat.reduceSub, Int.reduceAdd, Int.reduceSub, Int.reduceToNat]) <;> omega) (laws_markIntS x.answersA (k0 + 4 * (x.a.own.length : Int) + 4 * (x.a.far.length : Int) + 10 * (x.a.subs.length : Int) + 8 * (x.a.halfs.length : Int) + 2 * (x.a.inp.list.length : Int) + 1 * (x.a.done.length : Int) + 1 * (x.a.over.length : Int) + 4 * (x.b.own.length : Int) + 4 * (x.b.far.length : Int) + 10 * (x.b.subs.length : Int) + 8 * (x.b.halfs.length : Int) + 2 * (x.b.inp.list.length : Int) + 1 * (x.b.done.length : Int) + 1 * (x.b.over.length : Int) + 19 * (x.bag.length : Int) + 19 * (x.past.length : Int) + 1 * (x.known.keys.length : Int) + 5 * (x.known.tags.length : Int) + 1 * (x.nums.length : Int)) (by omega) (by omega) (by omega)) [some (19, none)] (by simp only [go_sem]; repeat' first | rfl | constructor) (by rfl) (run_den 400 ?_)
  simp (disch := omega) only [go_sem, Nat.reduceEqDiff, Nat.reduceAdd, Nat.reduceSub, Int.reduceAdd, Int.reduceSub, Int.reduceToNat]
  refine den_call (by (try simp (disch := omega) only [go_sem, Nat.reduceEqDiff, Nat.reduceAdd, Nat.reduceSub, Int.reduceAdd, Int.reduceSub, Int.reduceToNat]) <;> omega) (laws_markIntS x.answersB (k0 + 4 * (x.a.own.length : Int) + 4 * (x.a.far.length : Int) + 10 * (x.a.subs.length : Int) + 8 * (x.a.halfs.length : Int) + 2 * (x.a.inp.list.length : Int) + 1 * (x.a.done.length : Int) + 1 * (x.a.over.length : Int) + 4 * (x.b.own.length : Int) + 4 * (x.b.far.length : Int) + 10 * (x.b.subs.length : Int) + 8 * (x.b.halfs.length : Int) + 2 * (x.b.inp.list.length : Int) + 1 * (x.b.done.length : Int) + 1 * (x.b.over.length : Int) + 19 * (x.bag.length : Int) + 19 * (x.past.length : Int) + 1 * (x.known.keys.length : Int) + 5 * (x.known.tags.length : Int) + 1 * (x.nums.length : Int) + 1 * (x.answersA.length : Int)) (by omega) (by omega) (by omega)) [some (20, none)] (by simp only [go_sem]; repeat' first | rfl | constructor) (by rfl) (run_den 400 ?_)
  simp (disch := omega) only [go_sem, Nat.reduceEqDiff, Nat.reduceAdd, Nat.reduceSub, Int.reduceAdd, Int.reduceSub, Int.reduceToNat]
  refine den_fin [some (0, none), some (1, none), some (2, none), some (3, none), some (4, none), some (5, none), some (6, none), some (7, none), some (8, none), some (9, none), some (10, none), some (11, none), some (12, none), some (13, none), some (14, none), some (15, none), some (16, none), some (17, none), some (18, none), some (19, none), some (20, none)] (by (try simp (disch := omega) only [go_sem, Nat.reduceEqDiff, Nat.reduceAdd, Nat.reduceSub, Int.reduceAdd, Int.reduceSub, Int.reduceToNat]) <;> omega) _ (by simp only [go_sem]; rfl) (by rfl) (by rfl) ?_
  simp (disch := omega) only [go_sem, Nat.reduceEqDiff, Nat.reduceAdd, Nat.reduceSub, Int.reduceAdd, Int.reduceSub, Int.reduceToNat]
  try omega
end Go.Proofs.Ytoghbjbfldlfpaa
