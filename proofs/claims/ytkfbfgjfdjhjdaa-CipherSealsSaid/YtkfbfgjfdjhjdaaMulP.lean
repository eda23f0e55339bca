/-
  Plain bytes: the field's product keeps sums; columns mixed, and back. No program in sight.
-/
import Derived.Test.YtkfbfgjfdjhjdaaMix
import Derived.Test.YtkfbfgjfdjhjdaaRefMix
namespace Go.Proofs.Ytkfbfgjfdjhjdaa
open Go.ChangeShapes Go.WideShapes Go.ChangeAt Go.RowKit

theorem one_bit : ∀ n : Fin 256, (UInt8.ofNat n) >>> 7 = 0 ∨ (UInt8.ofNat n) >>> 7 = 1 := by decide +kernel
theorem top_bit (b : UInt8) : b >>> 7 = 0 ∨ b >>> 7 = 1 := by simpa using one_bit ⟨b.toNat, b.toNat_lt⟩
theorem low_bit' : ∀ n : Fin 256, (UInt8.ofNat n) &&& 1 = 0 ∨ (UInt8.ofNat n) &&& 1 = 1 := by decide +kernel
theorem low_bit (b : UInt8) : b &&& 1 = 0 ∨ b &&& 1 = 1 := by simpa using low_bit' ⟨b.toNat, b.toNat_lt⟩
theorem x4 (a b c d : UInt8) : (a ^^^ b) ^^^ (c ^^^ d) = (a ^^^ c) ^^^ (b ^^^ d) := by
  rw [UInt8.xor_assoc, UInt8.xor_assoc, ← UInt8.xor_assoc b c d, UInt8.xor_comm b c, UInt8.xor_assoc c b d]
theorem twice_xor (a b : UInt8) : twiceB (a ^^^ b) = twiceB a ^^^ twiceB b := by
  unfold twiceB
  rw [UInt8.shiftLeft_xor, UInt8.shiftRight_xor, x4]
  congr 1
  rcases top_bit a with h | h <;> rcases top_bit b with h' | h' <;> rw [h, h'] <;> rfl
theorem mulGo_xor (n : Nat) : ∀ (a a' b o o' : UInt8), mulGo n (a ^^^ a') b (o ^^^ o') = mulGo n a b o ^^^ mulGo n a' b o' := by
  induction n with
  | zero => intros; rfl
  | succ n ih =>
    intro a a' b o o'
    simp only [mulGo]
    split
    · rfl
    · rw [← ih, twice_xor]
      congr 1
      rw [x4]
      congr 1
      rcases low_bit b with h | h <;> rw [h] <;> simp
theorem mul_xor (a a' b : UInt8) : mulB (a ^^^ a') b = mulB a b ^^^ mulB a' b := by
  have := mulGo_xor 8 a a' b 0 0
  simpa [mulB] using this
theorem mul_zero_left (b : UInt8) : mulB 0 b = 0 := by
  have := mul_xor 0 0 b
  simpa using this

theorem mul1' : ∀ n : Fin 256, mulB (UInt8.ofNat n) 1 = UInt8.ofNat n := by decide +kernel
theorem mul_one (x : UInt8) : mulB x 1 = x := by simpa using mul1' ⟨x.toNat, x.toNat_lt⟩
theorem mix_law {v : List UInt8} (h : v.length = 4) : byPart v [2, 3, 1, 1] 16 = refMix v := by
  obtain ⟨a, b, c, d, rfl⟩ := len4 h
  rw [by_is]
  simp only [mul_one, refMix, List.getD_cons_zero, List.getD_cons_succ]

/-- What a byte comes to through two products with four factors. -/
def via (x f0 f1 f2 f3 g0 g1 g2 g3 : UInt8) : UInt8 := mulB (mulB x f0) g0 ^^^ mulB (mulB x f1) g1 ^^^ mulB (mulB x f2) g2 ^^^ mulB (mulB x f3) g3
theorem by_by (a b c d f0 f1 f2 f3 g0 g1 g2 g3 : UInt8) : byPart (byPart [a, b, c, d] [f0, f1, f2, f3] 16) [g0, g1, g2, g3] 16 =
    [via a f0 f3 f2 f1 g0 g1 g2 g3 ^^^ via b f1 f0 f3 f2 g0 g1 g2 g3 ^^^ via c f2 f1 f0 f3 g0 g1 g2 g3 ^^^ via d f3 f2 f1 f0 g0 g1 g2 g3,
     via a f0 f3 f2 f1 g3 g0 g1 g2 ^^^ via b f1 f0 f3 f2 g3 g0 g1 g2 ^^^ via c f2 f1 f0 f3 g3 g0 g1 g2 ^^^ via d f3 f2 f1 f0 g3 g0 g1 g2,
     via a f0 f3 f2 f1 g2 g3 g0 g1 ^^^ via b f1 f0 f3 f2 g2 g3 g0 g1 ^^^ via c f2 f1 f0 f3 g2 g3 g0 g1 ^^^ via d f3 f2 f1 f0 g2 g3 g0 g1,
     via a f0 f3 f2 f1 g1 g2 g3 g0 ^^^ via b f1 f0 f3 f2 g1 g2 g3 g0 ^^^ via c f2 f1 f0 f3 g1 g2 g3 g0 ^^^ via d f3 f2 f1 f0 g1 g2 g3 g0] := by
  have r (p q r s p' q' r' s' p2 q2 r2 s2 p3 q3 r3 s3 : UInt8) : (p ^^^ q ^^^ r ^^^ s) ^^^ (p' ^^^ q' ^^^ r' ^^^ s') ^^^ (p2 ^^^ q2 ^^^ r2 ^^^ s2) ^^^ (p3 ^^^ q3 ^^^ r3 ^^^ s3) =
      (p ^^^ p' ^^^ p2 ^^^ p3) ^^^ (q ^^^ q' ^^^ q2 ^^^ q3) ^^^ (r ^^^ r' ^^^ r2 ^^^ r3) ^^^ (s ^^^ s' ^^^ s2 ^^^ s3) := by ac_rfl
  rw [by_is, by_is]
  simp only [mul_xor, r, via]
theorem vm00' : ∀ n : Fin 256, via (UInt8.ofNat n) 2 1 1 3 14 11 13 9 = UInt8.ofNat n := by decide +kernel
theorem vm00 (x : UInt8) : via x 2 1 1 3 14 11 13 9 = x := by simpa using vm00' ⟨x.toNat, x.toNat_lt⟩
theorem vm01' : ∀ n : Fin 256, via (UInt8.ofNat n) 3 2 1 1 14 11 13 9 = 0 := by decide +kernel
theorem vm01 (x : UInt8) : via x 3 2 1 1 14 11 13 9 = 0 := by simpa using vm01' ⟨x.toNat, x.toNat_lt⟩
theorem vm02' : ∀ n : Fin 256, via (UInt8.ofNat n) 1 3 2 1 14 11 13 9 = 0 := by decide +kernel
theorem vm02 (x : UInt8) : via x 1 3 2 1 14 11 13 9 = 0 := by simpa using vm02' ⟨x.toNat, x.toNat_lt⟩
theorem vm03' : ∀ n : Fin 256, via (UInt8.ofNat n) 1 1 3 2 14 11 13 9 = 0 := by decide +kernel
theorem vm03 (x : UInt8) : via x 1 1 3 2 14 11 13 9 = 0 := by simpa using vm03' ⟨x.toNat, x.toNat_lt⟩
theorem vm10' : ∀ n : Fin 256, via (UInt8.ofNat n) 2 1 1 3 9 14 11 13 = 0 := by decide +kernel
theorem vm10 (x : UInt8) : via x 2 1 1 3 9 14 11 13 = 0 := by simpa using vm10' ⟨x.toNat, x.toNat_lt⟩
theorem vm11' : ∀ n : Fin 256, via (UInt8.ofNat n) 3 2 1 1 9 14 11 13 = UInt8.ofNat n := by decide +kernel
theorem vm11 (x : UInt8) : via x 3 2 1 1 9 14 11 13 = x := by simpa using vm11' ⟨x.toNat, x.toNat_lt⟩
theorem vm12' : ∀ n : Fin 256, via (UInt8.ofNat n) 1 3 2 1 9 14 11 13 = 0 := by decide +kernel
theorem vm12 (x : UInt8) : via x 1 3 2 1 9 14 11 13 = 0 := by simpa using vm12' ⟨x.toNat, x.toNat_lt⟩
theorem vm13' : ∀ n : Fin 256, via (UInt8.ofNat n) 1 1 3 2 9 14 11 13 = 0 := by decide +kernel
theorem vm13 (x : UInt8) : via x 1 1 3 2 9 14 11 13 = 0 := by simpa using vm13' ⟨x.toNat, x.toNat_lt⟩
theorem vm20' : ∀ n : Fin 256, via (UInt8.ofNat n) 2 1 1 3 13 9 14 11 = 0 := by decide +kernel
theorem vm20 (x : UInt8) : via x 2 1 1 3 13 9 14 11 = 0 := by simpa using vm20' ⟨x.toNat, x.toNat_lt⟩
theorem vm21' : ∀ n : Fin 256, via (UInt8.ofNat n) 3 2 1 1 13 9 14 11 = 0 := by decide +kernel
theorem vm21 (x : UInt8) : via x 3 2 1 1 13 9 14 11 = 0 := by simpa using vm21' ⟨x.toNat, x.toNat_lt⟩
theorem vm22' : ∀ n : Fin 256, via (UInt8.ofNat n) 1 3 2 1 13 9 14 11 = UInt8.ofNat n := by decide +kernel
theorem vm22 (x : UInt8) : via x 1 3 2 1 13 9 14 11 = x := by simpa using vm22' ⟨x.toNat, x.toNat_lt⟩
theorem vm23' : ∀ n : Fin 256, via (UInt8.ofNat n) 1 1 3 2 13 9 14 11 = 0 := by decide +kernel
theorem vm23 (x : UInt8) : via x 1 1 3 2 13 9 14 11 = 0 := by simpa using vm23' ⟨x.toNat, x.toNat_lt⟩
theorem vm30' : ∀ n : Fin 256, via (UInt8.ofNat n) 2 1 1 3 11 13 9 14 = 0 := by decide +kernel
theorem vm30 (x : UInt8) : via x 2 1 1 3 11 13 9 14 = 0 := by simpa using vm30' ⟨x.toNat, x.toNat_lt⟩
theorem vm31' : ∀ n : Fin 256, via (UInt8.ofNat n) 3 2 1 1 11 13 9 14 = 0 := by decide +kernel
theorem vm31 (x : UInt8) : via x 3 2 1 1 11 13 9 14 = 0 := by simpa using vm31' ⟨x.toNat, x.toNat_lt⟩
theorem vm32' : ∀ n : Fin 256, via (UInt8.ofNat n) 1 3 2 1 11 13 9 14 = 0 := by decide +kernel
theorem vm32 (x : UInt8) : via x 1 3 2 1 11 13 9 14 = 0 := by simpa using vm32' ⟨x.toNat, x.toNat_lt⟩
theorem vm33' : ∀ n : Fin 256, via (UInt8.ofNat n) 1 1 3 2 11 13 9 14 = UInt8.ofNat n := by decide +kernel
theorem vm33 (x : UInt8) : via x 1 1 3 2 11 13 9 14 = x := by simpa using vm33' ⟨x.toNat, x.toNat_lt⟩
theorem unmix_mix {v : List UInt8} (h : v.length = 4) : byPart (byPart v [2, 3, 1, 1] 16) [14, 11, 13, 9] 16 = v := by
  obtain ⟨a, b, c, d, rfl⟩ := len4 h
  rw [by_by]
  simp only [vm00, vm01, vm02, vm03, vm10, vm11, vm12, vm13, vm20, vm21, vm22, vm23, vm30, vm31, vm32, vm33, UInt8.xor_zero, UInt8.zero_xor]
theorem vu00' : ∀ n : Fin 256, via (UInt8.ofNat n) 14 9 13 11 2 3 1 1 = UInt8.ofNat n := by decide +kernel
theorem vu00 (x : UInt8) : via x 14 9 13 11 2 3 1 1 = x := by simpa using vu00' ⟨x.toNat, x.toNat_lt⟩
theorem vu01' : ∀ n : Fin 256, via (UInt8.ofNat n) 11 14 9 13 2 3 1 1 = 0 := by decide +kernel
theorem vu01 (x : UInt8) : via x 11 14 9 13 2 3 1 1 = 0 := by simpa using vu01' ⟨x.toNat, x.toNat_lt⟩
theorem vu02' : ∀ n : Fin 256, via (UInt8.ofNat n) 13 11 14 9 2 3 1 1 = 0 := by decide +kernel
theorem vu02 (x : UInt8) : via x 13 11 14 9 2 3 1 1 = 0 := by simpa using vu02' ⟨x.toNat, x.toNat_lt⟩
theorem vu03' : ∀ n : Fin 256, via (UInt8.ofNat n) 9 13 11 14 2 3 1 1 = 0 := by decide +kernel
theorem vu03 (x : UInt8) : via x 9 13 11 14 2 3 1 1 = 0 := by simpa using vu03' ⟨x.toNat, x.toNat_lt⟩
theorem vu10' : ∀ n : Fin 256, via (UInt8.ofNat n) 14 9 13 11 1 2 3 1 = 0 := by decide +kernel
theorem vu10 (x : UInt8) : via x 14 9 13 11 1 2 3 1 = 0 := by simpa using vu10' ⟨x.toNat, x.toNat_lt⟩
theorem vu11' : ∀ n : Fin 256, via (UInt8.ofNat n) 11 14 9 13 1 2 3 1 = UInt8.ofNat n := by decide +kernel
theorem vu11 (x : UInt8) : via x 11 14 9 13 1 2 3 1 = x := by simpa using vu11' ⟨x.toNat, x.toNat_lt⟩
theorem vu12' : ∀ n : Fin 256, via (UInt8.ofNat n) 13 11 14 9 1 2 3 1 = 0 := by decide +kernel
theorem vu12 (x : UInt8) : via x 13 11 14 9 1 2 3 1 = 0 := by simpa using vu12' ⟨x.toNat, x.toNat_lt⟩
theorem vu13' : ∀ n : Fin 256, via (UInt8.ofNat n) 9 13 11 14 1 2 3 1 = 0 := by decide +kernel
theorem vu13 (x : UInt8) : via x 9 13 11 14 1 2 3 1 = 0 := by simpa using vu13' ⟨x.toNat, x.toNat_lt⟩
theorem vu20' : ∀ n : Fin 256, via (UInt8.ofNat n) 14 9 13 11 1 1 2 3 = 0 := by decide +kernel
theorem vu20 (x : UInt8) : via x 14 9 13 11 1 1 2 3 = 0 := by simpa using vu20' ⟨x.toNat, x.toNat_lt⟩
theorem vu21' : ∀ n : Fin 256, via (UInt8.ofNat n) 11 14 9 13 1 1 2 3 = 0 := by decide +kernel
theorem vu21 (x : UInt8) : via x 11 14 9 13 1 1 2 3 = 0 := by simpa using vu21' ⟨x.toNat, x.toNat_lt⟩
theorem vu22' : ∀ n : Fin 256, via (UInt8.ofNat n) 13 11 14 9 1 1 2 3 = UInt8.ofNat n := by decide +kernel
theorem vu22 (x : UInt8) : via x 13 11 14 9 1 1 2 3 = x := by simpa using vu22' ⟨x.toNat, x.toNat_lt⟩
theorem vu23' : ∀ n : Fin 256, via (UInt8.ofNat n) 9 13 11 14 1 1 2 3 = 0 := by decide +kernel
theorem vu23 (x : UInt8) : via x 9 13 11 14 1 1 2 3 = 0 := by simpa using vu23' ⟨x.toNat, x.toNat_lt⟩
theorem vu30' : ∀ n : Fin 256, via (UInt8.ofNat n) 14 9 13 11 3 1 1 2 = 0 := by decide +kernel
theorem vu30 (x : UInt8) : via x 14 9 13 11 3 1 1 2 = 0 := by simpa using vu30' ⟨x.toNat, x.toNat_lt⟩
theorem vu31' : ∀ n : Fin 256, via (UInt8.ofNat n) 11 14 9 13 3 1 1 2 = 0 := by decide +kernel
theorem vu31 (x : UInt8) : via x 11 14 9 13 3 1 1 2 = 0 := by simpa using vu31' ⟨x.toNat, x.toNat_lt⟩
theorem vu32' : ∀ n : Fin 256, via (UInt8.ofNat n) 13 11 14 9 3 1 1 2 = 0 := by decide +kernel
theorem vu32 (x : UInt8) : via x 13 11 14 9 3 1 1 2 = 0 := by simpa using vu32' ⟨x.toNat, x.toNat_lt⟩
theorem vu33' : ∀ n : Fin 256, via (UInt8.ofNat n) 9 13 11 14 3 1 1 2 = UInt8.ofNat n := by decide +kernel
theorem vu33 (x : UInt8) : via x 9 13 11 14 3 1 1 2 = x := by simpa using vu33' ⟨x.toNat, x.toNat_lt⟩
theorem mix_unmix {v : List UInt8} (h : v.length = 4) : byPart (byPart v [14, 11, 13, 9] 16) [2, 3, 1, 1] 16 = v := by
  obtain ⟨a, b, c, d, rfl⟩ := len4 h
  rw [by_by]
  simp only [vu00, vu01, vu02, vu03, vu10, vu11, vu12, vu13, vu20, vu21, vu22, vu23, vu30, vu31, vu32, vu33, UInt8.xor_zero, UInt8.zero_xor]
theorem mix_example : byPart [0xdb, 0x13, 0x53, 0x45] [2, 3, 1, 1] 16 = [0x8e, 0x4d, 0xa1, 0xbc] := by rw [by_is]; decide +kernel
/-- A sum of lists. -/
def xorL (a b : List UInt8) : List UInt8 := List.zipWith (· ^^^ ·) a b
theorem by_xor {v w f : List UInt8} (hv : v.length = 4) (hw : w.length = 4) (hf : f.length = 4) : byPart (xorL v w) f 16 = xorL (byPart v f 16) (byPart w f 16) := by
  obtain ⟨a, b, c, d, rfl⟩ := len4 hv
  obtain ⟨a', b', c', d', rfl⟩ := len4 hw
  obtain ⟨f0, f1, f2, f3, rfl⟩ := len4 hf
  have r (p q r s p' q' r' s' : UInt8) : (p ^^^ p') ^^^ (q ^^^ q') ^^^ (r ^^^ r') ^^^ (s ^^^ s') = (p ^^^ q ^^^ r ^^^ s) ^^^ (p' ^^^ q' ^^^ r' ^^^ s') := by ac_rfl
  simp only [xorL, List.zipWith_cons_cons, List.zipWith_nil_right, by_is, mul_xor, r]
end Go.Proofs.Ytkfbfgjfdjhjdaa
