import Derived.Test.YtoghbjbfldlfpaaGreatVW1
import Derived.Test.YtoghbjbfldlfpaaGreatVModel
namespace Go.Proofs.YtoghbjbfldlfpaaGreat
open Go.RowKit
set_option linter.unusedVariables false
set_option linter.unusedSimpArgs false
set_option maxRecDepth 10000

def figI (n : Int) : Int := if n < 10 then 48 + n else 87 + n
theorem tmod10 (m : Int) : ∃ z, m.tmod 10 = z ∧ z.natAbs = m.natAbs % 10 := ⟨_, rfl, by rw [Int.natAbs_tmod]; rfl⟩
theorem tdiv10 (m : Int) : ∃ z, m.tdiv 10 = z ∧ z.natAbs = m.natAbs / 10 := ⟨_, rfl, by rw [Int.natAbs_tdiv]; rfl⟩
theorem byteC_ofNat {n : Nat} {z : Int} (h : z = n) (hn : n < 256) : byteC (UInt8.ofNat n) = [.int .u8 z] := by
  subst h
  simp [byteC]
  omega
end Go.Proofs.YtoghbjbfldlfpaaGreat
