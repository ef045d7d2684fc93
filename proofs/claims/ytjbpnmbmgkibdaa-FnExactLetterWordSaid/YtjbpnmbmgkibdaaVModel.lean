/-
  The program's functions on words, as plain Lean; their laws.
-/
import Derived.Test.YtjbpnmbmgkibdaaVLib
namespace Go.Proofs.Ytjbpnmbmgkibdaa
set_option linter.unusedVariables false

def decGo (n : Nat) (acc : List UInt8) : List UInt8 :=
  if h : n < 10 then UInt8.ofNat (48 + n) :: acc else decGo (n / 10) (UInt8.ofNat (48 + n % 10) :: acc)
termination_by n
decreasing_by omega
def dec (n : Int) : List UInt8 := if n < 0 then 45 :: decGo n.natAbs [] else decGo n.natAbs []
theorem decGo_lt (n : Nat) (acc : List UInt8) : acc.length < (decGo n acc).length := by
  induction n using Nat.strongRecOn generalizing acc with
  | _ n ih =>
    rw [decGo]
    split
    · simp
    · have := ih (n / 10) (by omega) (UInt8.ofNat (48 + n % 10) :: acc)
      simp only [List.length_cons] at this
      omega
theorem decGo_le (k : Nat) : ∀ (n : Nat) (acc : List UInt8), n < 10 ^ (k + 1) → (decGo n acc).length ≤ acc.length + (k + 1) := by
  induction k with
  | zero =>
    intro n acc h
    rw [decGo, dif_pos (by omega)]
    simp
  | succ k ih =>
    intro n acc h
    rw [decGo]
    split
    · simp
    · have := ih (n / 10) (UInt8.ofNat (48 + n % 10) :: acc) (by rw [Nat.pow_succ] at h; omega)
      simp only [List.length_cons] at this
      omega
theorem decGo_20 {n : Int} (h : I64 n) : (decGo n.natAbs []).length ≤ 20 := by
  have h' : -9223372036854775808 ≤ n ∧ n ≤ 9223372036854775807 := h
  have := decGo_le 19 n.natAbs [] (by omega)
  simpa using this
def figB (n : Nat) : UInt8 := UInt8.ofNat (if n < 10 then 48 + n else 87 + n)
theorem figB_get {n : Nat} (h : n < 16) : ([48, 49, 50, 51, 52, 53, 54, 55, 56, 57, 97, 98, 99, 100, 101, 102] : List UInt8).getD n 0 = figB n := by
  have : ∀ m : Fin 16, ([48, 49, 50, 51, 52, 53, 54, 55, 56, 57, 97, 98, 99, 100, 101, 102] : List UInt8).getD m.1 0 = figB m.1 := by decide
  exact this ⟨n, h⟩
theorem figB_at {n : Nat} (h : n < ([48, 49, 50, 51, 52, 53, 54, 55, 56, 57, 97, 98, 99, 100, 101, 102] : List UInt8).length) : ([48, 49, 50, 51, 52, 53, 54, 55, 56, 57, 97, 98, 99, 100, 101, 102] : List UInt8)[n] = figB n := by
  rw [← figB_get h, List.getD_eq_getElem?_getD, List.getElem?_eq_getElem h]
  rfl
def hexL (l : List UInt8) : List UInt8 := l.flatMap fun b => [figB (b.toNat / 16), figB (b.toNat % 16)]
def hexR (l : List UInt8) : List UInt8 := if l.length ≤ 20000 then hexL l else []
theorem hexL_length (l : List UInt8) : (hexL l).length = 2 * l.length := by
  induction l with
  | nil => rfl
  | cons a l ih => simp only [hexL, List.flatMap_cons, List.length_append, List.length_cons, List.length_nil] at ih ⊢; omega
theorem hexL_take {l : List UInt8} {k : Nat} (h : k < l.length) : hexL (l.take (k + 1)) = hexL (l.take k) ++ [figB (l[k].toNat / 16), figB (l[k].toNat % 16)] := by
  rw [List.take_succ_eq_append_getElem h]
  simp only [hexL, List.flatMap_append, List.flatMap_cons, List.flatMap_nil, List.append_nil]
def hexV (b : UInt8) : Int := if 48 ≤ b.toNat ∧ b.toNat ≤ 57 then b.toNat - 48 else if 97 ≤ b.toNat ∧ b.toNat ≤ 102 then b.toNat - 87 else -1
def unhexGo (acc : List UInt8) : List UInt8 → Option (List UInt8)
  | a :: b :: r => if hexV a < 0 ∨ hexV b < 0 then none else unhexGo (acc ++ [UInt8.ofNat (16 * hexV a + hexV b).toNat]) r
  | _ => some acc
def unhexR : Option (List UInt8) → List UInt8 × Bool
  | none => ([], false)
  | some r => (r, true)
def unhex (l : List UInt8) : List UInt8 × Bool := if l.length % 2 ≠ 0 ∨ l.length / 2 > 20000 then ([], false) else unhexR (unhexGo [] l)
def rdGo (acc : Int) : List UInt8 → Option Int
  | [] => some acc
  | b :: r => if b.toNat < 48 ∨ 57 < b.toNat then none else rdGo (10 * acc + b.toNat - 48) r
def readR (l : List UInt8) : Option Int → Int × Bool
  | none => (0, false)
  | some n => if n > 1000000000 ∨ dec n ≠ l then (0, false) else (n, true)
def readDec (l : List UInt8) : Int × Bool := if l.length > 10 then (0, false) else readR l (rdGo 0 l)
def cutGo (y : UInt8) (acc : List (List UInt8)) (cur : List UInt8) : List UInt8 → List (List UInt8)
  | [] => acc ++ [cur]
  | b :: r => if b = y then cutGo y (acc ++ [cur]) [] r else cutGo y acc (cur ++ [b]) r
def cutL (y : UInt8) (l : List UInt8) : List (List UInt8) := cutGo y [] [] l
theorem cutGo_step {y : UInt8} {acc : List (List UInt8)} {cur l : List UInt8} {k : Nat} (h : k < l.length) : cutGo y acc cur (l.drop k) = if l[k] = y then cutGo y (acc ++ [cur]) [] (l.drop (k + 1)) else cutGo y acc (cur ++ [l[k]]) (l.drop (k + 1)) := by
  rw [List.drop_eq_getElem_cons h, cutGo]
def app1 (acc : List (List UInt8)) (cur : List UInt8) : List (List UInt8) := if cur = [] then acc else acc ++ [cur]
def partsGo (acc : List (List UInt8)) (cur : List UInt8) : List UInt8 → Option (List (List UInt8))
  | [] => some (app1 acc cur)
  | b :: r => if b.toNat < 32 ∨ 126 < b.toNat then none else if b = 32 then partsGo (app1 acc cur) [] r else partsGo acc (cur ++ [b]) r
theorem partsGo_step {acc : List (List UInt8)} {cur l : List UInt8} {k : Nat} (h : k < l.length) : partsGo acc cur (l.drop k) = if l[k].toNat < 32 ∨ 126 < l[k].toNat then none else if l[k] = 32 then partsGo (app1 acc cur) [] (l.drop (k + 1)) else partsGo acc (cur ++ [l[k]]) (l.drop (k + 1)) := by
  rw [List.drop_eq_getElem_cons h, partsGo]
def partsR : Option (List (List UInt8)) → List (List UInt8) × Bool
  | none => ([], false)
  | some p => if 12 < p.length then ([], false) else (p, true)
def partsL (l : List UInt8) : List (List UInt8) × Bool := if 600 < l.length then ([], false) else partsR (partsGo [] [] l)
def joinGo (y : List UInt8) (k : Nat) (acc : List UInt8) : List (List UInt8) → List UInt8
  | [] => acc
  | s :: r => joinGo y (k + 1) ((if 0 < k then acc ++ y else acc) ++ s) r
def joinL (y : List UInt8) (l : List (List UInt8)) : List UInt8 := joinGo y 0 [] l
theorem joinGo_step {y acc : List UInt8} {l : List (List UInt8)} {k : Nat} (h : k < l.length) : joinGo y k acc (l.drop k) = joinGo y (k + 1) ((if 0 < k then acc ++ y else acc) ++ l[k]) (l.drop (k + 1)) := by
  rw [List.drop_eq_getElem_cons h, joinGo]
theorem joinGo_le {y : List UInt8} : ∀ {l : List (List UInt8)} {k : Nat} {acc : List UInt8}, acc.length ≤ (joinGo y k acc l).length
  | [], k, acc => Nat.le_refl _
  | s :: r, k, acc => by
    rw [joinGo]
    refine Nat.le_trans ?_ joinGo_le
    split <;> simp <;> omega
theorem app1_pos {acc : List (List UInt8)} {l : List UInt8} {k b : Nat} (hk : k ≤ l.length) (h : b < k) : app1 acc ((l.take k).drop b) = acc ++ [(l.take k).drop b] := by
  rw [app1, if_neg]
  intro e
  have := congrArg List.length e
  simp at this
  omega
theorem app1_neg {acc : List (List UInt8)} {l : List UInt8} {k b : Nat} (h : k ≤ b) : app1 acc ((l.take k).drop b) = acc := by
  rw [app1, if_pos]
  rw [List.drop_eq_nil_of_le]
  simp
  omega
theorem drop_take_self {l : List UInt8} {k b : Nat} (h : k ≤ b) : (l.take k).drop b = [] := by
  rw [List.drop_eq_nil_of_le]
  simp
  omega
theorem dec_le {n : Int} (h : I64 n) : (dec n).length ≤ 21 := by
  have := decGo_20 h
  rw [dec]
  split
  · simp; omega
  · omega
def isN (n : Int) : Bool := decide (0 ≤ n) && decide (n ≤ 1000000000)
def inR (n a b : Int) : Bool := decide (a ≤ n) && decide (n ≤ b)
def letNums (x : LetterD) : List Int := [x.frm, x.to, x.port, x.key, x.token, x.nonce, x.give, x.sgn, x.id, x.addr, x.pos, x.tag.kind, x.tag.one, x.tag.two, x.tag.a, x.tag.b]
def letOk (x : LetterD) : Bool := inR x.kind 1 13 && (letNums x).all isN && decide (x.text.length ≤ 20)
def letInts (x : LetterD) : List Int := [x.kind, x.frm, x.to, x.port, x.key, x.token, x.nonce, x.give, x.sgn, x.tag.kind, x.tag.one, x.tag.two, x.tag.a, x.tag.b, x.id, x.addr, cond x.spare 1 0, x.pos]
def wordGo (acc : List UInt8) : List Int → List UInt8
  | [] => acc
  | n :: r => wordGo (acc ++ (dec n ++ [44])) r
theorem wordGo_step {acc : List UInt8} {l : List Int} {k : Nat} (h : k < l.length) : wordGo acc (l.drop k) = wordGo (acc ++ (dec l[k] ++ [44])) (l.drop (k + 1)) := by
  rw [List.drop_eq_getElem_cons h, wordGo]
def letWord (x : LetterD) : List UInt8 := if letOk x then wordGo [] (letInts x) ++ hexR x.text else []
theorem letInts_wf {x : LetterD} (h : x.wf) : ∀ n ∈ letInts x, I64 n := by
  obtain ⟨h1, h2, h3, h4, h5, h6, h7, h8, h9, h10, h11, h12, h13, h14, h15, h16, h17, _⟩ := h
  intro n hn
  simp only [letInts, List.mem_cons, List.not_mem_nil, or_false] at hn
  rcases hn with rfl | rfl | rfl | rfl | rfl | rfl | rfl | rfl | rfl | rfl | rfl | rfl | rfl | rfl | rfl | rfl | rfl | rfl <;> first | assumption | (cases x.spare <;> decide)
def ptrOf (k : Nat) : List Sc := if k = 16 then [.pt 1 0 0] else [.pt 0 0 k]
def ptrL : List (List Sc) := (List.range 18).map ptrOf
theorem ptrL_eq : ptrL = [[.pt 0 0 0], [.pt 0 0 1], [.pt 0 0 2], [.pt 0 0 3], [.pt 0 0 4], [.pt 0 0 5], [.pt 0 0 6], [.pt 0 0 7], [.pt 0 0 8], [.pt 0 0 9], [.pt 0 0 10], [.pt 0 0 11], [.pt 0 0 12], [.pt 0 0 13], [.pt 0 0 14], [.pt 0 0 15], [.pt 1 0 0], [.pt 0 0 17]] := rfl
theorem ptrL_get {k : Nat} (h : k < 18) : ptrL[k]? = some (ptrOf k) := by simp [ptrL, h]
theorem ptrOf_16 : ptrOf 16 = [.pt 1 0 0] := rfl
theorem ptrOf_ne {k : Nat} (h : k ≠ 16) : ptrOf k = [.pt 0 0 k] := if_neg h
theorem letCell (x : LetterD) {k : Nat} (h : k < (letInts x).length) (h16 : k ≠ 16) : x.cs[k]? = some (.int .i64 (letInts x)[k]) := by
  have h18 : k < 18 := h
  match k, h18, h16 with
  | 0, _, _ | 1, _, _ | 2, _, _ | 3, _, _ | 4, _, _ | 5, _, _ | 6, _, _ | 7, _, _ | 8, _, _ | 9, _, _ | 10, _, _ | 11, _, _ | 12, _, _ | 13, _, _ | 14, _, _ | 15, _, _ | 17, _, _ => rfl
  | 16, _, h => exact absurd rfl h
  | n + 18, h, _ => exact absurd h (by omega)
theorem hexR_le (l : List UInt8) : (hexR l).length ≤ 40000 := by
  rw [hexR]
  split
  · rw [hexL_length]; omega
  · simp
end Go.Proofs.Ytjbpnmbmgkibdaa
