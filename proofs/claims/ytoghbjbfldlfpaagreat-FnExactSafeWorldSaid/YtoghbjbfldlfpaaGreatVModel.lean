/-
  The program's functions on words, as plain Lean; their laws.
-/
import Derived.Test.YtoghbjbfldlfpaaGreatVLib
namespace Go.Proofs.YtoghbjbfldlfpaaGreat
set_option linter.unusedVariables false

def decGo (n : Nat) (acc : List UInt8) : List UInt8 :=
  if h : n < 10 then UInt8.ofNat (48 + n) :: acc else decGo (n / 10) (UInt8.ofNat (48 + n % 10) :: acc)
termination_by n
decreasing_by omega
def dec (n : Int) : List UInt8 := if n < 0 then 45 :: decGo n.natAbs [] else decGo n.natAbs []
theorem decGo_lt (n : Nat) (acc : List UInt8) : acc.length < (decGo n acc).length := by
  induction n using Nat.strongRecOn generalizing acc with
  | _ n ih =>
    rw [decGo]
    split
    · simp
    · have := ih (n / 10) (by omega) (UInt8.ofNat (48 + n % 10) :: acc)
      simp only [List.length_cons] at this
      omega
theorem decGo_le (k : Nat) : ∀ (n : Nat) (acc : List UInt8), n < 10 ^ (k + 1) → (decGo n acc).length ≤ acc.length + (k + 1) := by
  induction k with
  | zero =>
    intro n acc h
    rw [decGo, dif_pos (by omega)]
    simp
  | succ k ih =>
    intro n acc h
    rw [decGo]
    split
    · simp
    · have := ih (n / 10) (UInt8.ofNat (48 + n % 10) :: acc) (by rw [Nat.pow_succ] at h; omega)
      simp only [List.length_cons] at this
      omega
theorem decGo_20 {n : Int} (h : I64 n) : (decGo n.natAbs []).length ≤ 20 := by
  have h' : -9223372036854775808 ≤ n ∧ n ≤ 9223372036854775807 := h
  have := decGo_le 19 n.natAbs [] (by omega)
  simpa using this
def figB (n : Nat) : UInt8 := UInt8.ofNat (if n < 10 then 48 + n else 87 + n)
theorem figB_get {n : Nat} (h : n < 16) : ([48, 49, 50, 51, 52, 53, 54, 55, 56, 57, 97, 98, 99, 100, 101, 102] : List UInt8).getD n 0 = figB n := by
  have : ∀ m : Fin 16, ([48, 49, 50, 51, 52, 53, 54, 55, 56, 57, 97, 98, 99, 100, 101, 102] : List UInt8).getD m.1 0 = figB m.1 := by decide
  exact this ⟨n, h⟩
theorem figB_at {n : Nat} (h : n < ([48, 49, 50, 51, 52, 53, 54, 55, 56, 57, 97, 98, 99, 100, 101, 102] : List UInt8).length) : ([48, 49, 50, 51, 52, 53, 54, 55, 56, 57, 97, 98, 99, 100, 101, 102] : List UInt8)[n] = figB n := by
  rw [← figB_get h, List.getD_eq_getElem?_getD, List.getElem?_eq_getElem h]
  rfl
def hexL (l : List UInt8) : List UInt8 := l.flatMap fun b => [figB (b.toNat / 16), figB (b.toNat % 16)]
def hexR (l : List UInt8) : List UInt8 := if l.length ≤ 20000 then hexL l else []
theorem hexL_length (l : List UInt8) : (hexL l).length = 2 * l.length := by
  induction l with
  | nil => rfl
  | cons a l ih => simp only [hexL, List.flatMap_cons, List.length_append, List.length_cons, List.length_nil] at ih ⊢; omega
theorem hexL_take {l : List UInt8} {k : Nat} (h : k < l.length) : hexL (l.take (k + 1)) = hexL (l.take k) ++ [figB (l[k].toNat / 16), figB (l[k].toNat % 16)] := by
  rw [List.take_succ_eq_append_getElem h]
  simp only [hexL, List.flatMap_append, List.flatMap_cons, List.flatMap_nil, List.append_nil]
def hexV (b : UInt8) : Int := if 48 ≤ b.toNat ∧ b.toNat ≤ 57 then b.toNat - 48 else if 97 ≤ b.toNat ∧ b.toNat ≤ 102 then b.toNat - 87 else -1
def unhexGo (acc : List UInt8) : List UInt8 → Option (List UInt8)
  | a :: b :: r => if hexV a < 0 ∨ hexV b < 0 then none else unhexGo (acc ++ [UInt8.ofNat (16 * hexV a + hexV b).toNat]) r
  | _ => some acc
def unhexR : Option (List UInt8) → List UInt8 × Bool
  | none => ([], false)
  | some r => (r, true)
def unhex (l : List UInt8) : List UInt8 × Bool := if l.length % 2 ≠ 0 ∨ l.length / 2 > 20000 then ([], false) else unhexR (unhexGo [] l)
def rdGo (acc : Int) : List UInt8 → Option Int
  | [] => some acc
  | b :: r => if b.toNat < 48 ∨ 57 < b.toNat then none else rdGo (10 * acc + b.toNat - 48) r
def readR (l : List UInt8) : Option Int → Int × Bool
  | none => (0, false)
  | some n => if n > 1000000000 ∨ dec n ≠ l then (0, false) else (n, true)
def readDec (l : List UInt8) : Int × Bool := if l.length > 10 then (0, false) else readR l (rdGo 0 l)
def cutGo (y : UInt8) (acc : List (List UInt8)) (cur : List UInt8) : List UInt8 → List (List UInt8)
  | [] => acc ++ [cur]
  | b :: r => if b = y then cutGo y (acc ++ [cur]) [] r else cutGo y acc (cur ++ [b]) r
def cutL (y : UInt8) (l : List UInt8) : List (List UInt8) := cutGo y [] [] l
theorem cutGo_step {y : UInt8} {acc : List (List UInt8)} {cur l : List UInt8} {k : Nat} (h : k < l.length) : cutGo y acc cur (l.drop k) = if l[k] = y then cutGo y (acc ++ [cur]) [] (l.drop (k + 1)) else cutGo y acc (cur ++ [l[k]]) (l.drop (k + 1)) := by
  rw [List.drop_eq_getElem_cons h, cutGo]
def app1 (acc : List (List UInt8)) (cur : List UInt8) : List (List UInt8) := if cur = [] then acc else acc ++ [cur]
def partsGo (acc : List (List UInt8)) (cur : List UInt8) : List UInt8 → Option (List (List UInt8))
  | [] => some (app1 acc cur)
  | b :: r => if b.toNat < 32 ∨ 126 < b.toNat then none else if b = 32 then partsGo (app1 acc cur) [] r else partsGo acc (cur ++ [b]) r
theorem partsGo_step {acc : List (List UInt8)} {cur l : List UInt8} {k : Nat} (h : k < l.length) : partsGo acc cur (l.drop k) = if l[k].toNat < 32 ∨ 126 < l[k].toNat then none else if l[k] = 32 then partsGo (app1 acc cur) [] (l.drop (k + 1)) else partsGo acc (cur ++ [l[k]]) (l.drop (k + 1)) := by
  rw [List.drop_eq_getElem_cons h, partsGo]
def partsR : Option (List (List UInt8)) → List (List UInt8) × Bool
  | none => ([], false)
  | some p => if 12 < p.length then ([], false) else (p, true)
def partsL (l : List UInt8) : List (List UInt8) × Bool := if 600 < l.length then ([], false) else partsR (partsGo [] [] l)
def joinGo (y : List UInt8) (k : Nat) (acc : List UInt8) : List (List UInt8) → List UInt8
  | [] => acc
  | s :: r => joinGo y (k + 1) ((if 0 < k then acc ++ y else acc) ++ s) r
def joinL (y : List UInt8) (l : List (List UInt8)) : List UInt8 := joinGo y 0 [] l
theorem joinGo_step {y acc : List UInt8} {l : List (List UInt8)} {k : Nat} (h : k < l.length) : joinGo y k acc (l.drop k) = joinGo y (k + 1) ((if 0 < k then acc ++ y else acc) ++ l[k]) (l.drop (k + 1)) := by
  rw [List.drop_eq_getElem_cons h, joinGo]
theorem joinGo_le {y : List UInt8} : ∀ {l : List (List UInt8)} {k : Nat} {acc : List UInt8}, acc.length ≤ (joinGo y k acc l).length
  | [], k, acc => Nat.le_refl _
  | s :: r, k, acc => by
    rw [joinGo]
    refine Nat.le_trans ?_ joinGo_le
    split <;> simp <;> omega
theorem app1_pos {acc : List (List UInt8)} {l : List UInt8} {k b : Nat} (hk : k ≤ l.length) (h : b < k) : app1 acc ((l.take k).drop b) = acc ++ [(l.take k).drop b] := by
  rw [app1, if_neg]
  intro e
  have := congrArg List.length e
  simp at this
  omega
theorem app1_neg {acc : List (List UInt8)} {l : List UInt8} {k b : Nat} (h : k ≤ b) : app1 acc ((l.take k).drop b) = acc := by
  rw [app1, if_pos]
  rw [List.drop_eq_nil_of_le]
  simp
  omega
theorem drop_take_self {l : List UInt8} {k b : Nat} (h : k ≤ b) : (l.take k).drop b = [] := by
  rw [List.drop_eq_nil_of_le]
  simp
  omega
theorem dec_le {n : Int} (h : I64 n) : (dec n).length ≤ 21 := by
  have := decGo_20 h
  rw [dec]
  split
  · simp; omega
  · omega
def isN (n : Int) : Bool := decide (0 ≤ n) && decide (n ≤ 1000000000)
def inR (n a b : Int) : Bool := decide (a ≤ n) && decide (n ≤ b)
def letNums (x : LetterD) : List Int := [x.frm, x.to, x.port, x.key, x.token, x.nonce, x.give, x.sgn, x.id, x.addr, x.pos, x.tag.kind, x.tag.one, x.tag.two, x.tag.a, x.tag.b]
def letOk (x : LetterD) : Bool := inR x.kind 1 13 && (letNums x).all isN && decide (x.text.length ≤ 20)
def letInts (x : LetterD) : List Int := [x.kind, x.frm, x.to, x.port, x.key, x.token, x.nonce, x.give, x.sgn, x.tag.kind, x.tag.one, x.tag.two, x.tag.a, x.tag.b, x.id, x.addr, cond x.spare 1 0, x.pos]
def wordGo (acc : List UInt8) : List Int → List UInt8
  | [] => acc
  | n :: r => wordGo (acc ++ (dec n ++ [44])) r
theorem wordGo_step {acc : List UInt8} {l : List Int} {k : Nat} (h : k < l.length) : wordGo acc (l.drop k) = wordGo (acc ++ (dec l[k] ++ [44])) (l.drop (k + 1)) := by
  rw [List.drop_eq_getElem_cons h, wordGo]
def letWord (x : LetterD) : List UInt8 := if letOk x then wordGo [] (letInts x) ++ hexR x.text else []
theorem letInts_wf {x : LetterD} (h : x.wf) : ∀ n ∈ letInts x, I64 n := by
  obtain ⟨h1, h2, h3, h4, h5, h6, h7, h8, h9, h10, h11, h12, h13, h14, h15, h16, h17, _⟩ := h
  intro n hn
  simp only [letInts, List.mem_cons, List.not_mem_nil, or_false] at hn
  rcases hn with rfl | rfl | rfl | rfl | rfl | rfl | rfl | rfl | rfl | rfl | rfl | rfl | rfl | rfl | rfl | rfl | rfl | rfl <;> first | assumption | (cases x.spare <;> decide)
def ptrOf (k : Nat) : List Sc := if k = 16 then [.pt 1 0 0] else [.pt 0 0 k]
def ptrL : List (List Sc) := (List.range 18).map ptrOf
theorem ptrL_eq : ptrL = [[.pt 0 0 0], [.pt 0 0 1], [.pt 0 0 2], [.pt 0 0 3], [.pt 0 0 4], [.pt 0 0 5], [.pt 0 0 6], [.pt 0 0 7], [.pt 0 0 8], [.pt 0 0 9], [.pt 0 0 10], [.pt 0 0 11], [.pt 0 0 12], [.pt 0 0 13], [.pt 0 0 14], [.pt 0 0 15], [.pt 1 0 0], [.pt 0 0 17]] := rfl
theorem ptrL_get {k : Nat} (h : k < 18) : ptrL[k]? = some (ptrOf k) := by simp [ptrL, h]
theorem ptrOf_16 : ptrOf 16 = [.pt 1 0 0] := rfl
theorem ptrOf_ne {k : Nat} (h : k ≠ 16) : ptrOf k = [.pt 0 0 k] := if_neg h
theorem letCell (x : LetterD) {k : Nat} (h : k < (letInts x).length) (h16 : k ≠ 16) : x.cs[k]? = some (.int .i64 (letInts x)[k]) := by
  have h18 : k < 18 := h
  match k, h18, h16 with
  | 0, _, _ | 1, _, _ | 2, _, _ | 3, _, _ | 4, _, _ | 5, _, _ | 6, _, _ | 7, _, _ | 8, _, _ | 9, _, _ | 10, _, _ | 11, _, _ | 12, _, _ | 13, _, _ | 14, _, _ | 15, _, _ | 17, _, _ => rfl
  | 16, _, h => exact absurd rfl h
  | n + 18, h, _ => exact absurd h (by omega)
theorem hexR_le (l : List UInt8) : (hexR l).length ≤ 40000 := by
  rw [hexR]
  split
  · rw [hexL_length]; omega
  · simp
def polOk (p : PolicyD) : Bool := if p.kind = 2 then inR p.many 1 8 else (p.kind == 1 || p.kind == 3) && p.many == 0
def polLine (p : PolicyD) : List UInt8 := if polOk p then (if p.kind = 1 then [109, 101, 115, 104] else if p.kind = 3 then [111, 110, 101] else [109, 97, 110, 121, 32] ++ dec p.many) else []
theorem polOk_kind {p : PolicyD} (h : polOk p = true) (h1 : p.kind ≠ 1) (h3 : p.kind ≠ 3) : p.kind = 2 := by
  by_cases h2 : p.kind = 2
  · exact h2
  · simp [polOk, h1, h2, h3] at h
def spaced (l : List (List UInt8)) : List UInt8 := joinL [32] l
/-- p's line, as its parts. -/
def sameB (a : List UInt8) (parts : List (List UInt8)) : Bool := (partsL a).2 && !(a == []) && joinL [32] (partsL a).1 == joinL [32] parts && (partsL a).1.length == parts.length
def tot (l : List (List UInt8)) : Nat := (l.map List.length).sum
theorem tot_app (l : List (List UInt8)) (c : List UInt8) : tot (l ++ [c]) = tot l + c.length := by simp [tot]
theorem joinGo_len {y : List UInt8} : ∀ {l : List (List UInt8)} {k : Nat} {acc : List UInt8}, (joinGo y k acc l).length ≤ acc.length + tot l + l.length * y.length
  | [], k, acc => by simp [joinGo, tot]
  | s :: r, k, acc => by
    rw [joinGo]
    refine Nat.le_trans joinGo_len ?_
    simp only [tot, List.map_cons, List.sum_cons, List.length_cons, List.length_append, Nat.add_mul, Nat.one_mul]
    split <;> (try simp only [List.length_append]) <;> omega
theorem joinL_len {y : List UInt8} {l : List (List UInt8)} : (joinL y l).length ≤ tot l + l.length * y.length := by
  have := joinGo_len (y := y) (l := l) (k := 0) (acc := [])
  simpa [joinL] using this
theorem app1_tot (acc : List (List UInt8)) (cur : List UInt8) : tot (app1 acc cur) ≤ tot acc + cur.length := by
  rw [app1]
  split
  · omega
  · rw [tot_app]; omega
theorem partsGo_tot : ∀ {l : List UInt8} {acc : List (List UInt8)} {cur : List UInt8} {p : List (List UInt8)}, partsGo acc cur l = some p → tot p ≤ tot acc + cur.length + l.length
  | [], acc, cur, p, h => by
    simp only [partsGo, Option.some.injEq] at h
    subst h
    have := app1_tot acc cur
    simpa using this
  | b :: r, acc, cur, p, h => by
    rw [partsGo] at h
    split at h
    · cases h
    · split at h
      · have := partsGo_tot h
        have h2 := app1_tot acc cur
        simp only [List.length_nil, List.length_cons] at this ⊢
        omega
      · have := partsGo_tot h
        simp only [List.length_append, List.length_cons, List.length_nil] at this ⊢
        omega
theorem partsL_tot (a : List UInt8) : tot (partsL a).1 ≤ 600 ∧ (partsL a).1.length ≤ 12 := by
  rw [partsL]
  split
  · simp [tot]
  · cases h : partsGo [] [] a with
    | none => simp [partsR, tot]
    | some p =>
      have := partsGo_tot h
      rw [partsR]
      split
      · simp [tot]
      · simp [tot] at this ⊢
        omega
theorem partsL_join (a : List UInt8) : (joinL [32] (partsL a).1).length ≤ 612 := by
  have := joinL_len (y := [32]) (l := (partsL a).1)
  obtain ⟨h1, h2⟩ := partsL_tot a
  simp only [List.length_singleton, Nat.mul_one] at this
  omega
def Clean (l : List (List UInt8)) : Prop := ∀ s ∈ l, s ≠ [] ∧ ∀ b ∈ s, 32 < b.toNat ∧ b.toNat ≤ 126
theorem partsGo_clean : ∀ {l : List UInt8} {acc : List (List UInt8)} {cur : List UInt8} {p : List (List UInt8)}, Clean acc → (∀ b ∈ cur, 32 < b.toNat ∧ b.toNat ≤ 126) → partsGo acc cur l = some p → Clean p
  | [], acc, cur, p, ha, hc, h => by
    simp only [partsGo, Option.some.injEq] at h
    subst h
    rw [app1]
    split
    · exact ha
    · rename_i hne
      intro s hs
      rcases List.mem_append.1 hs with hs | hs
      · exact ha s hs
      · simp at hs; subst hs; exact ⟨hne, hc⟩
  | b :: r, acc, cur, p, ha, hc, h => by
    rw [partsGo] at h
    split at h
    · cases h
    · rename_i hb
      split at h
      · refine partsGo_clean ?_ (by simp) h
        rw [app1]
        split
        · exact ha
        · rename_i hne
          intro s hs
          rcases List.mem_append.1 hs with hs | hs
          · exact ha s hs
          · simp at hs; subst hs; exact ⟨hne, hc⟩
      · rename_i h32
        refine partsGo_clean ha (fun x hx => ?_) h
        rcases List.mem_append.1 hx with hx | hx
        · exact hc x hx
        · simp at hx; subst hx
          have : x.toNat ≠ 32 := fun e => h32 (UInt8.toNat_inj.1 e)
          omega
theorem partsL_clean (a : List UInt8) : Clean (partsL a).1 := by
  rw [partsL]
  split
  · intro s hs; simp at hs
  · cases h : partsGo [] [] a with
    | none => intro s hs; simp [partsR] at hs
    | some p =>
      rw [partsR]
      split
      · intro s hs; simp at hs
      · exact partsGo_clean (fun s hs => by simp at hs) (by simp) h
theorem partsGo_word : ∀ {s r cur : List UInt8} {acc : List (List UInt8)}, (∀ b ∈ s, 32 < b.toNat ∧ b.toNat ≤ 126) → partsGo acc cur (s ++ r) = partsGo acc (cur ++ s) r
  | [], r, cur, acc, _ => by simp
  | b :: s, r, cur, acc, h => by
    have hb := h b (by simp)
    have h32 : b ≠ 32 := fun e => by subst e; exact absurd hb.1 (by decide)
    rw [List.cons_append, partsGo, if_neg (by omega), if_neg h32, partsGo_word (fun x hx => h x (by simp [hx]))]
    simp
theorem joinGo_pos {y : List UInt8} : ∀ {l : List (List UInt8)} {k : Nat} {acc : List UInt8}, 0 < k → joinGo y k acc l = acc ++ l.flatMap (y ++ ·)
  | [], k, acc, _ => by simp [joinGo]
  | s :: r, k, acc, h => by
    rw [joinGo, if_pos h, joinGo_pos (by omega)]
    simp
theorem joinL_cons {y s : List UInt8} {r : List (List UInt8)} : joinL y (s :: r) = s ++ r.flatMap (y ++ ·) := by
  rw [joinL, joinGo, joinGo_pos (by omega)]
  simp
theorem partsGo_rest : ∀ {r : List (List UInt8)} {acc : List (List UInt8)} {cur : List UInt8}, cur ≠ [] → Clean r → partsGo acc cur (r.flatMap ([32] ++ ·)) = some (acc ++ cur :: r)
  | [], acc, cur, h, _ => by simp [partsGo, app1, h]
  | s :: r, acc, cur, h, hr => by
    obtain ⟨h1, h2⟩ := hr s (by simp)
    rw [List.flatMap_cons, List.append_assoc, List.singleton_append, partsGo, if_neg (by decide), if_pos rfl, app1, if_neg h, partsGo_word h2, partsGo_rest (by simpa using h1) (fun x hx => hr x (by simp [hx]))]
    simp
/-- The parts of a joined list. -/
theorem parts_join {l : List (List UInt8)} (h : Clean l) : partsGo [] [] (joinL [32] l) = some l := by
  cases l with
  | nil => simp [joinL, joinGo, partsGo, app1]
  | cons s r =>
    obtain ⟨h1, h2⟩ := h s (by simp)
    rw [joinL_cons, partsGo_word h2, partsGo_rest (by simpa using h1) (fun x hx => h x (by simp [hx]))]
    simp
theorem join_inj {l m : List (List UInt8)} (hl : Clean l) (hm : Clean m) (h : joinL [32] l = joinL [32] m) : l = m := by
  have h1 := parts_join hl
  rw [h, parts_join hm] at h1
  simpa using h1.symm
def numAt (l : List (List UInt8)) (n : Nat) : Int := if h : n < l.length then (readDec l[n]).1 else 0
def cands : List PolicyD := [⟨1, 0⟩, ⟨3, 0⟩, ⟨2, 1⟩, ⟨2, 2⟩, ⟨2, 3⟩, ⟨2, 4⟩, ⟨2, 5⟩, ⟨2, 6⟩, ⟨2, 7⟩, ⟨2, 8⟩]
def polNone : PolicyD := ⟨0, 0⟩
def readGo (parts : List (List UInt8)) : List PolicyD → PolicyD × Bool
  | [] => (polNone, false)
  | c :: r => if sameB (polLine c) parts then (c, true) else readGo parts r
def selP (parts : List (List UInt8)) : PolicyD := if parts.getD 0 [] = [109, 101, 115, 104] then ⟨1, 0⟩ else if parts.getD 0 [] = [109, 97, 110, 121] then ⟨2, numAt parts 1⟩ else ⟨3, 0⟩
def specPol (parts : List (List UInt8)) : PolicyD × Bool := if parts = [] then (polNone, false) else if polLine (selP parts) = [] ∨ polLine (selP parts) ≠ joinL [32] parts then (polNone, false) else (selP parts, true)
def cpOf (c : PolicyD) : List (List UInt8) := if c.kind = 1 then [[109, 101, 115, 104]] else if c.kind = 3 then [[111, 110, 101]] else [[109, 97, 110, 121], [UInt8.ofNat (48 + c.many.toNat)]]
theorem dec_digit {n : Nat} (h : n < 10) : dec n = [UInt8.ofNat (48 + n)] := by
  rw [dec, if_neg (by omega), Int.natAbs_natCast, decGo, dif_pos h]
theorem cand_facts : ∀ c ∈ cands, polLine c = joinL [32] (cpOf c) ∧ partsGo [] [] (joinL [32] (cpOf c)) = some (cpOf c) ∧ (joinL [32] (cpOf c)).length ≤ 600 ∧ (cpOf c).length ≤ 2 ∧ joinL [32] (cpOf c) ≠ [] ∧ Clean (cpOf c) ∧ polOk c = true := by
  have d1 : dec 1 = [49] := dec_digit (n := 1) (by omega)
  have d2 : dec 2 = [50] := dec_digit (n := 2) (by omega)
  have d3 : dec 3 = [51] := dec_digit (n := 3) (by omega)
  have d4 : dec 4 = [52] := dec_digit (n := 4) (by omega)
  have d5 : dec 5 = [53] := dec_digit (n := 5) (by omega)
  have d6 : dec 6 = [54] := dec_digit (n := 6) (by omega)
  have d7 : dec 7 = [55] := dec_digit (n := 7) (by omega)
  have d8 : dec 8 = [56] := dec_digit (n := 8) (by omega)
  intro c hc
  simp only [cands, List.mem_cons, List.not_mem_nil, or_false] at hc
  have key : ∀ (c : PolicyD), polLine c = joinL [32] (cpOf c) → Clean (cpOf c) → (joinL [32] (cpOf c)).length ≤ 600 ∧ (cpOf c).length ≤ 2 ∧ joinL [32] (cpOf c) ≠ [] → polOk c = true → polLine c = joinL [32] (cpOf c) ∧ partsGo [] [] (joinL [32] (cpOf c)) = some (cpOf c) ∧ (joinL [32] (cpOf c)).length ≤ 600 ∧ (cpOf c).length ≤ 2 ∧ joinL [32] (cpOf c) ≠ [] ∧ Clean (cpOf c) ∧ polOk c = true :=
    fun c h1 h2 h3 h4 => ⟨h1, parts_join h2, h3.1, h3.2.1, h3.2.2, h2, h4⟩
  rcases hc with rfl | rfl | rfl | rfl | rfl | rfl | rfl | rfl | rfl | rfl <;> refine key _ ?_ ?_ ?_ (by decide) <;> first | decide | (simp [polLine, polOk, inR, d1, d2, d3, d4, d5, d6, d7, d8]; decide) | (intro s hs; revert s; decide)
theorem cand_parts {c : PolicyD} (hc : c ∈ cands) : partsL (polLine c) = (cpOf c, true) := by
  obtain ⟨h1, h2, h3, h4, _⟩ := cand_facts c hc
  rw [h1, partsL, if_neg (by omega), h2, partsR, if_neg (by omega)]
theorem sameB_cand {c : PolicyD} (hc : c ∈ cands) {parts : List (List UInt8)} (hp : Clean parts) : sameB (polLine c) parts = decide (parts = cpOf c) := by
  obtain ⟨h1, h2, h3, h4, h5, h6, _⟩ := cand_facts c hc
  rw [sameB, cand_parts hc]
  have e : (polLine c == []) = false := by rw [h1]; simpa using h5
  rw [e]
  by_cases h : parts = cpOf c
  · subst h; simp
  · have : joinL [32] (cpOf c) ≠ joinL [32] parts := fun he => h (join_inj hp h6 he.symm)
    simp [this, h]
theorem cp_inj : ∀ c ∈ cands, ∀ d ∈ cands, cpOf c = cpOf d → c = d := by decide
theorem readGo_none {parts : List (List UInt8)} (hp : Clean parts) : ∀ {l : List PolicyD}, (∀ c ∈ l, c ∈ cands) → (∀ c ∈ l, parts ≠ cpOf c) → readGo parts l = (polNone, false)
  | [], _, _ => rfl
  | c :: r, h, hn => by
    rw [readGo, sameB_cand (h c (by simp)) hp, if_neg (by simpa using hn c (by simp)), readGo_none hp (fun x hx => h x (by simp [hx])) (fun x hx => hn x (by simp [hx]))]
theorem readGo_some {parts : List (List UInt8)} (hp : Clean parts) {d : PolicyD} (hd : parts = cpOf d) (hdc : d ∈ cands) : ∀ {l : List PolicyD}, (∀ c ∈ l, c ∈ cands) → d ∈ l → readGo parts l = (d, true)
  | [], _, hm => by simp at hm
  | c :: r, h, hm => by
    rw [readGo, sameB_cand (h c (by simp)) hp]
    by_cases he : parts = cpOf c
    · rw [if_pos (by simpa using he)]
      have : c = d := cp_inj c (h c (by simp)) d hdc (by rw [← he, hd])
      rw [this]
    · rw [if_neg (by simpa using he)]
      have hne : d ≠ c := fun e => he (by rw [hd, e])
      exact readGo_some hp hd hdc (fun x hx => h x (by simp [hx])) (by simpa [hne] using hm)
theorem selP_cand : ∀ c ∈ cands, selP (cpOf c) = c ∧ cpOf c ≠ [] := by
  have r : ∀ n : Fin 8, rdGo 0 [UInt8.ofNat (49 + n.1)] = some (n.1 + 1 : Int) := by decide
  have d : ∀ n : Nat, n < 10 → dec (n : Int) = [UInt8.ofNat (48 + n)] := fun n h => dec_digit h
  have rd : ∀ n : Nat, 1 ≤ n → n ≤ 8 → readDec [UInt8.ofNat (48 + n)] = ((n : Int), true) := by
    intro n h1 h8
    have := r ⟨n - 1, by omega⟩
    have e1 : (⟨n - 1, by omega⟩ : Fin 8).1 = n - 1 := rfl
    rw [e1, show 49 + (n - 1) = 48 + n from by omega] at this
    have e2 : ((n - 1 : Nat) : Int) + 1 = n := by omega
    rw [e2] at this
    rw [readDec, if_neg (by simp), this, readR, if_neg]
    rintro (h | h)
    · omega
    · exact h (d n (by omega))
  have many : ∀ n : Nat, 1 ≤ n → n ≤ 8 → selP (cpOf ⟨2, n⟩) = ⟨2, n⟩ ∧ cpOf ⟨2, n⟩ ≠ [] := by
    intro n h1 h8
    have e : cpOf ⟨2, n⟩ = [[109, 97, 110, 121], [UInt8.ofNat (48 + n)]] := by simp [cpOf]
    rw [e]
    refine ⟨?_, by simp⟩
    rw [selP, if_neg (by simp), if_pos (by simp), numAt, dif_pos (by simp)]
    show (⟨2, (readDec [UInt8.ofNat (48 + n)]).1⟩ : PolicyD) = ⟨2, n⟩
    rw [rd n h1 h8]
  intro c hc
  simp only [cands, List.mem_cons, List.not_mem_nil, or_false] at hc
  rcases hc with rfl | rfl | rfl | rfl | rfl | rfl | rfl | rfl | rfl | rfl
  · exact ⟨rfl, by decide⟩
  · exact ⟨rfl, by decide⟩
  · exact many 1 (by omega) (by omega)
  · exact many 2 (by omega) (by omega)
  · exact many 3 (by omega) (by omega)
  · exact many 4 (by omega) (by omega)
  · exact many 5 (by omega) (by omega)
  · exact many 6 (by omega) (by omega)
  · exact many 7 (by omega) (by omega)
  · exact many 8 (by omega) (by omega)
theorem polOk_cand {p : PolicyD} (h : polOk p = true) : p ∈ cands := by
  obtain ⟨k, m⟩ := p
  by_cases h2 : k = 2
  · subst h2
    simp [polOk, inR] at h
    obtain ⟨h1, h8⟩ := h
    obtain ⟨n, rfl⟩ := Int.eq_ofNat_of_zero_le (show 0 ≤ m by omega)
    have : n = 1 ∨ n = 2 ∨ n = 3 ∨ n = 4 ∨ n = 5 ∨ n = 6 ∨ n = 7 ∨ n = 8 := by omega
    rcases this with rfl | rfl | rfl | rfl | rfl | rfl | rfl | rfl <;> decide
  · simp [polOk, h2] at h
    obtain ⟨h1 | h1, rfl⟩ := h <;> subst h1 <;> decide
theorem specPol_eq {parts : List (List UInt8)} (hp : Clean parts) : specPol parts = readGo parts cands := by
  by_cases h : ∃ c ∈ cands, parts = cpOf c
  · obtain ⟨c, hc, rfl⟩ := h
    obtain ⟨h1, h2, h3, h4, h5, h6, _⟩ := cand_facts c hc
    obtain ⟨s1, s2⟩ := selP_cand c hc
    rw [readGo_some hp rfl hc (fun _ h => h) hc, specPol, if_neg s2, s1, if_neg]
    rintro (h | h)
    · rw [h1] at h; exact h5 h
    · exact h h1
  · have hn : ∀ c ∈ cands, parts ≠ cpOf c := fun c hc he => h ⟨c, hc, he⟩
    rw [readGo_none hp (fun _ h => h) hn, specPol]
    by_cases h0 : parts = []
    · rw [if_pos h0]
    · rw [if_neg h0, if_pos]
      by_cases hl : polLine (selP parts) = []
      · exact .inl hl
      · refine .inr fun he => ?_
        have hok : polOk (selP parts) = true := by
          cases hb : polOk (selP parts) with
          | true => rfl
          | false => exact absurd (by simp [polLine, hb]) hl
        have hc := polOk_cand hok
        obtain ⟨h1, _, _, _, _, h6, _⟩ := cand_facts _ hc
        rw [h1] at he
        exact hn _ hc (join_inj h6 hp he).symm
theorem rdGo_nn : ∀ {l : List UInt8} {a n : Int}, 0 ≤ a → rdGo a l = some n → 0 ≤ n
  | [], a, n, h, h1 => by simp [rdGo] at h1; omega
  | b :: r, a, n, h, h1 => by
    rw [rdGo] at h1
    split at h1
    · cases h1
    · exact rdGo_nn (by omega) h1
theorem readDec_wf (l : List UInt8) : I64 (readDec l).1 := by
  rw [readDec]
  split
  · exact ⟨by decide, by decide⟩
  · cases h : rdGo 0 l with
    | none => exact ⟨by show (-9223372036854775808 : Int) ≤ 0; decide, by show (0 : Int) ≤ 9223372036854775807; decide⟩
    | some n =>
      have := rdGo_nn (Int.le_refl 0) h
      rw [readR]
      split
      · exact ⟨by decide, by decide⟩
      · exact ⟨by show -9223372036854775808 ≤ n; omega, by show n ≤ 9223372036854775807; omega⟩
theorem cand_wf : ∀ c ∈ cands, c.wf := by
  intro c hc
  simp only [cands, List.mem_cons, List.not_mem_nil, or_false] at hc
  rcases hc with rfl | rfl | rfl | rfl | rfl | rfl | rfl | rfl | rfl | rfl <;> exact ⟨⟨by decide, by decide⟩, ⟨by decide, by decide⟩⟩
theorem cands_take {k : Nat} (h1 : 1 ≤ k) (h8 : k ≤ 8) : cands.take (k + 1 + 1) = cands.take (k + 1) ++ [⟨2, (k : Nat)⟩] := by
  have : k = 1 ∨ k = 2 ∨ k = 3 ∨ k = 4 ∨ k = 5 ∨ k = 6 ∨ k = 7 ∨ k = 8 := by omega
  rcases this with rfl | rfl | rfl | rfl | rfl | rfl | rfl | rfl <;> rfl
theorem readGo_step {parts : List (List UInt8)} {l : List PolicyD} {k : Nat} (h : k < l.length) : readGo parts (l.drop k) = if sameB (polLine l[k]) parts then (l[k], true) else readGo parts (l.drop (k + 1)) := by
  rw [List.drop_eq_getElem_cons h, readGo]
end Go.Proofs.YtoghbjbfldlfpaaGreat
