/-
  Plain bytes: which byte is substituted by another one. No program in sight.
-/
import Derived.Test.YtkfbfgjfdjhjdaaSboxP
import Derived.Lib.Bytealg
namespace Go.Proofs.Ytkfbfgjfdjhjdaa
open Go.ChangeShapes Go.WideShapes Go.ChangeAt Go.RowKit

def backB (b : UInt8) : UInt8 := UInt8.ofNat (Lib.indexByte sboxL b).toNat
theorem back_all : ∀ n : Fin 256, Lib.indexByte sboxL (UInt8.ofNat n) = ((backB (UInt8.ofNat n)).toNat : Int) := by decide +kernel
theorem back_is (b : UInt8) : Lib.indexByte sboxL b = ((backB b).toNat : Int) := by simpa using back_all ⟨b.toNat, b.toNat_lt⟩
theorem turns_all : ∀ n : Fin 256, backB (subB (UInt8.ofNat n)) = UInt8.ofNat n ∧ subB (backB (UInt8.ofNat n)) = UInt8.ofNat n ∧ subB (UInt8.ofNat n) ≠ UInt8.ofNat n ∧ subB (UInt8.ofNat n) ≠ ~~~(UInt8.ofNat n) := by decide +kernel
theorem turns (b : UInt8) : backB (subB b) = b ∧ subB (backB b) = b ∧ subB b ≠ b ∧ subB b ≠ ~~~b := by simpa using turns_all ⟨b.toNat, b.toNat_lt⟩
end Go.Proofs.Ytkfbfgjfdjhjdaa
