import Derived.Test.YtoghbjbfldlfpaaGreatVW3
namespace Go.Proofs.YtoghbjbfldlfpaaGreat
open Go.RowKit
set_option linter.unusedVariables false
set_option linter.unusedSimpArgs false
set_option maxRecDepth 10000

theorem figI_figB {n : Nat} (h : n < 16) : figI n = ((figB n).toNat : Int) := by
  have : ∀ m : Fin 16, figI m.1 = ((figB m.1).toNat : Int) := by decide
  exact this ⟨n, h⟩
theorem tdiv16 (b : UInt8) : (b.toNat : Int).tdiv 16 = ((b.toNat / 16 : Nat) : Int) := by
  rw [Int.tdiv_eq_ediv_of_nonneg (by omega)]; omega
theorem tmod16 (b : UInt8) : (b.toNat : Int).tmod 16 = ((b.toNat % 16 : Nat) : Int) := by
  rw [Int.tmod_eq_emod_of_nonneg (by omega)]; omega
theorem hexV_le (b : UInt8) : hexV b ≤ 15 := by
  unfold hexV
  (repeat' split) <;> omega
theorem hexV_ge (b : UInt8) : -1 ≤ hexV b := by
  unfold hexV
  (repeat' split) <;> omega
theorem unhexGo_step {l acc : List UInt8} {k : Nat} (h : k + 1 < l.length) : unhexGo acc (l.drop k) = if hexV l[k] < 0 ∨ hexV l[k + 1] < 0 then none else unhexGo (acc ++ [UInt8.ofNat (16 * hexV l[k] + hexV l[k + 1]).toNat]) (l.drop (k + 2)) := by
  rw [List.drop_eq_getElem_cons (by omega), List.drop_eq_getElem_cons (i := k + 1) (by omega), unhexGo]
theorem unhexGo_end {acc : List UInt8} : unhexGo acc [] = some acc := by rw [unhexGo]; simp
theorem byteC_int {z : Int} (h0 : 0 ≤ z) (h : z < 256) : byteC (UInt8.ofNat z.toNat) = [.int .u8 z] := by
  rw [byteC_ofNat (z := z) (n := z.toNat) (by omega) (by omega)]
theorem rdGo_step {l : List UInt8} {k : Nat} {a : Int} (h : k < l.length) : rdGo a (l.drop k) = if l[k].toNat < 48 ∨ 57 < l[k].toNat then none else rdGo (10 * a + l[k].toNat - 48) (l.drop (k + 1)) := by
  rw [List.drop_eq_getElem_cons h, rdGo]
theorem pow10_le {a : Int} {k : Nat} (h : a < 10 ^ k) (hk : k ≤ 10) : a < 10000000000 := by
  have : (10 : Nat) ^ k ≤ 10 ^ 10 := Nat.pow_le_pow_right (by omega) hk
  have h2 : ((10 ^ k : Nat) : Int) ≤ ((10 ^ 10 : Nat) : Int) := by exact_mod_cast this
  rw [Int.natCast_pow] at h2
  have h3 : (10 : Int) ^ k ≤ 10000000000 := h2
  omega
end Go.Proofs.YtoghbjbfldlfpaaGreat
