/-
  Reading a message, as plain Lean.
-/
import Derived.Test.YtjbpnmbmgkibdaaVModel
namespace Go.Proofs.Ytjbpnmbmgkibdaa
set_option linter.unusedVariables false

theorem wordGo_len : ∀ {l : List Int} {acc : List UInt8}, (∀ n ∈ l, 0 ≤ n ∧ n ≤ 1000000000) → (wordGo acc l).length ≤ acc.length + 11 * l.length
  | [], acc, _ => by simp [wordGo]
  | n :: r, acc, h => by
    rw [wordGo]
    have h1 := wordGo_len (l := r) (acc := acc ++ (dec n ++ [44])) (fun x hx => h x (by simp [hx]))
    obtain ⟨h2, h3⟩ := h n (by simp)
    have h4 : (dec n).length ≤ 10 := by
      rw [dec, if_neg (by omega)]
      have := decGo_le 9 n.natAbs [] (by omega)
      simpa using this
    simp only [List.length_append, List.length_cons, List.length_nil] at h1 ⊢
    omega
theorem letInts_ok {x : LetterD} (h : letOk x = true) : ∀ n ∈ letInts x, 0 ≤ n ∧ n ≤ 1000000000 := by
  simp only [letOk, inR, letNums, List.all_cons, List.all_nil, isN, Bool.and_eq_true, decide_eq_true_eq, Bool.and_true] at h
  intro n hn
  simp only [letInts, List.mem_cons, List.not_mem_nil, or_false] at hn
  rcases hn with rfl | rfl | rfl | rfl | rfl | rfl | rfl | rfl | rfl | rfl | rfl | rfl | rfl | rfl | rfl | rfl | rfl | rfl <;> first | omega | (cases x.spare <;> decide)
theorem letWord_len (x : LetterD) : (letWord x).length ≤ 400 := by
  rw [letWord]
  split
  · rename_i h
    have h1 := wordGo_len (acc := []) (letInts_ok h)
    have h2 : x.text.length ≤ 20 := by
      simp only [letOk, Bool.and_eq_true, decide_eq_true_eq] at h
      exact h.2
    have h3 : (hexR x.text).length ≤ 40 := by
      rw [hexR, if_pos (by omega), hexL_length]; omega
    have h4 : (letInts x).length = 18 := rfl
    rw [List.length_append]
    simp only [List.length_nil] at h1
    omega
  · simp
def letNone : LetterD := ⟨0, 0, 0, 0, 0, 0, 0, 0, 0, ⟨0, 0, 0, 0, 0⟩, 0, 0, false, 0, []⟩
def letAt (n : List Int) (k : Nat) : Int := n.getD k 0
def letOf (n : List Int) (spare : Bool) (text : List UInt8) : LetterD := ⟨letAt n 0, letAt n 1, letAt n 2, letAt n 3, letAt n 4, letAt n 5, letAt n 6, letAt n 7, letAt n 8, ⟨letAt n 9, letAt n 10, letAt n 11, letAt n 12, letAt n 13⟩, letAt n 14, letAt n 15, spare, letAt n 17, text⟩
def rdAll : List (List UInt8) → Option (List Int)
  | [] => some []
  | s :: r => if (readDec s).2 then (rdAll r).map ((readDec s).1 :: ·) else none
def rlwR (s : List UInt8) (t : List UInt8) : Option (List Int) → LetterD × Bool
  | none => (letNone, false)
  | some n => if (unhex t).2 = true ∧ letWord (letOf n (letAt n 16 == 1) (unhex t).1) = s then (letOf n (letAt n 16 == 1) (unhex t).1, true) else (letNone, false)
def rlw (s : List UInt8) : LetterD × Bool :=
  if (cutL 44 s).length = 19 then rlwR s ((cutL 44 s).getD 18 []) (rdAll ((cutL 44 s).take 18)) else (letNone, false)
theorem rlw_long {s : List UInt8} (h : 400 < s.length) : rlw s = (letNone, false) := by
  rw [rlw]
  split
  · cases hr : rdAll ((cutL 44 s).take 18) with
    | none => rfl
    | some n =>
      rw [rlwR, if_neg]
      rintro ⟨_, he⟩
      have := letWord_len (letOf n (letAt n 16 == 1) (unhex ((cutL 44 s).getD 18 [])).1)
      rw [he] at this
      omega
  · rfl
theorem rdAll_step {l : List (List UInt8)} {k : Nat} (h : k < l.length) : rdAll (l.drop k) = if (readDec l[k]).2 then (rdAll (l.drop (k + 1))).map ((readDec l[k]).1 :: ·) else none := by
  rw [List.drop_eq_getElem_cons h, rdAll]
theorem rdAll_len : ∀ {l : List (List UInt8)} {n : List Int}, rdAll l = some n → n.length = l.length
  | [], n, h => by simp [rdAll] at h; subst h; rfl
  | s :: r, n, h => by
    rw [rdAll] at h
    split at h
    · simp only [Option.map_eq_some_iff] at h
      obtain ⟨m, hm, rfl⟩ := h
      simp [rdAll_len hm]
    · cases h
theorem rdAll_wf : ∀ {l : List (List UInt8)} {n : List Int}, rdAll l = some n → ∀ x ∈ n, I64 x
  | [], n, h => by simp [rdAll] at h; subst h; simp
  | s :: r, n, h => by
    rw [rdAll] at h
    split at h
    · simp only [Option.map_eq_some_iff] at h
      obtain ⟨m, hm, rfl⟩ := h
      intro x hx
      rcases List.mem_cons.1 hx with rfl | hx
      · exact readDec_wf s
      · exact rdAll_wf hm x hx
    · cases h
theorem letAt_wf {n : List Int} (h : ∀ x ∈ n, I64 x) (k : Nat) : I64 (letAt n k) := by
  rw [letAt, List.getD_eq_getElem?_getD]
  cases hk : n[k]? with
  | none => exact ⟨by decide, by decide⟩
  | some x => exact h x (List.mem_of_getElem? hk)
theorem letOf_wf {n : List Int} (h : ∀ x ∈ n, I64 x) (b : Bool) {t : List UInt8} (ht : t.length ≤ maxLen) : (letOf n b t).wf :=
  ⟨letAt_wf h _, letAt_wf h _, letAt_wf h _, letAt_wf h _, letAt_wf h _, letAt_wf h _, letAt_wf h _, letAt_wf h _, letAt_wf h _, letAt_wf h _, letAt_wf h _, letAt_wf h _, letAt_wf h _, letAt_wf h _, letAt_wf h _, letAt_wf h _, letAt_wf h _, ht⟩
/-- One number more is stored. -/
theorem letOf_set {n : List Int} {k : Nat} (hk : k < 18) (h16 : k ≠ 16) (v : Int) (hn : n.length = 18) : spl (letOf n false []).cs k [.int .i64 v] = (letOf (n.set k v) false []).cs := by
  obtain ⟨a0, a1, a2, a3, a4, a5, a6, a7, a8, a9, a10, a11, a12, a13, a14, a15, a16, a17, rfl⟩ : ∃ a0 a1 a2 a3 a4 a5 a6 a7 a8 a9 a10 a11 a12 a13 a14 a15 a16 a17, n = [a0, a1, a2, a3, a4, a5, a6, a7, a8, a9, a10, a11, a12, a13, a14, a15, a16, a17] := by
    match n, hn with
    | [a0, a1, a2, a3, a4, a5, a6, a7, a8, a9, a10, a11, a12, a13, a14, a15, a16, a17], _ => exact ⟨a0, a1, a2, a3, a4, a5, a6, a7, a8, a9, a10, a11, a12, a13, a14, a15, a16, a17, rfl⟩
  match k, hk, h16 with
  | 0, _, _ | 1, _, _ | 2, _, _ | 3, _, _ | 4, _, _ | 5, _, _ | 6, _, _ | 7, _, _ | 8, _, _ | 9, _, _ | 10, _, _ | 11, _, _ | 12, _, _ | 13, _, _ | 14, _, _ | 15, _, _ | 17, _, _ => rfl
  | 16, _, h => exact absurd rfl h
  | n + 18, h, _ => exact absurd h (by omega)
theorem letOf_16 {n : List Int} (v : Int) : (letOf (n.set 16 v) false []).cs = (letOf n false []).cs := by
  simp [letOf, letAt]
end Go.Proofs.Ytjbpnmbmgkibdaa
