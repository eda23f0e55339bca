/-
  Plain bytes: the table of substitutions, and what the document says of it. No program in sight.
-/
import Derived.Test.YtkfbfgjfdjhjdaaRefMulP
namespace Go.Proofs.Ytkfbfgjfdjhjdaa
open Go.ChangeShapes Go.WideShapes Go.ChangeAt Go.RowKit

/-- What all bytes are substituted by. -/
def sboxL : List UInt8 := [99, 124, 119, 123, 242, 107, 111, 197, 48, 1, 103, 43, 254, 215, 171, 118, 202, 130, 201, 125, 250, 89, 71, 240, 173, 212, 162, 175, 156, 164, 114, 192, 183, 253, 147, 38, 54, 63, 247, 204, 52, 165, 229, 241, 113, 216, 49, 21, 4, 199, 35, 195, 24, 150, 5, 154, 7, 18, 128, 226, 235, 39, 178, 117, 9, 131, 44, 26, 27, 110, 90, 160, 82, 59, 214, 179, 41, 227, 47, 132, 83, 209, 0, 237, 32, 252, 177, 91, 106, 203, 190, 57, 74, 76, 88, 207, 208, 239, 170, 251, 67, 77, 51, 133, 69, 249, 2, 127, 80, 60, 159, 168, 81, 163, 64, 143, 146, 157, 56, 245, 188, 182, 218, 33, 16, 255, 243, 210, 205, 12, 19, 236, 95, 151, 68, 23, 196, 167, 126, 61, 100, 93, 25, 115, 96, 129, 79, 220, 34, 42, 144, 136, 70, 238, 184, 20, 222, 94, 11, 219, 224, 50, 58, 10, 73, 6, 36, 92, 194, 211, 172, 98, 145, 149, 228, 121, 231, 200, 55, 109, 141, 213, 78, 169, 108, 86, 244, 234, 101, 122, 174, 8, 186, 120, 37, 46, 28, 166, 180, 198, 232, 221, 116, 31, 75, 189, 139, 138, 112, 62, 181, 102, 72, 3, 246, 14, 97, 53, 87, 185, 134, 193, 29, 158, 225, 248, 152, 17, 105, 217, 142, 148, 155, 30, 135, 233, 206, 85, 40, 223, 140, 161, 137, 13, 191, 230, 66, 104, 65, 153, 45, 15, 176, 84, 187, 22]
theorem sboxL_len : sboxL.length = 256 := by decide +kernel
def subB (b : UInt8) : UInt8 := sboxL.getD b.toNat 0

/-! ### The document's product keeps sums of its second number -/
theorem xor_mod2 (a b : Nat) : (a ^^^ b) % 2 = (a + b) % 2 := by
  have := tb_xor a b 0
  simpa [tb, Nat.add_mod] using this
theorem two_xor (x y b c : Nat) (hb : b < 2) (hc : c < 2) : (2 * x + b) ^^^ (2 * y + c) = 2 * (x ^^^ y) + (b + c) % 2 := by
  have h1 := Nat.div_add_mod ((2 * x + b) ^^^ (2 * y + c)) 2
  rw [Nat.xor_div_two, xor_mod2, show (2 * x + b) / 2 = x by omega, show (2 * y + c) / 2 = y by omega] at h1
  rw [← h1]; omega
theorem outN_xor (P Q m : Nat) : outN (P ^^^ Q) m = outN P m ^^^ outN Q m := by
  induction m with
  | zero => simp [outN]
  | succ m ih => simp only [outN_succ, ih, tb_xor]; rw [two_xor _ _ _ _ (tb_lt _ _) (tb_lt _ _)]
theorem bit_xor (x y i : Nat) : tb (x ^^^ y) i = (tb x i + tb y i) % 2 := tb_xor x y i
theorem scaled (a x y s : Nat) (ha : a < 2) (hx : x < 2) (hy : y < 2) : (a * ((x + y) % 2)) <<< s = ((a * x) <<< s) ^^^ ((a * y) <<< s) := by
  have ha : a = 0 ∨ a = 1 := by omega
  have hx : x = 0 ∨ x = 1 := by omega
  have hy : y = 0 ∨ y = 1 := by omega
  rcases ha with rfl | rfl <;> rcases hx with rfl | rfl <;> rcases hy with rfl | rfl <;> simp
theorem nx4 (a b c d : Nat) : (a ^^^ b) ^^^ (c ^^^ d) = (a ^^^ c) ^^^ (b ^^^ d) := by
  rw [Nat.xor_assoc, Nat.xor_assoc, ← Nat.xor_assoc b c d, Nat.xor_comm b c, Nat.xor_assoc c b d]
theorem mulP_xor (a b b' n : Nat) : mulP a (b ^^^ b') n = mulP a b n ^^^ mulP a b' n := by
  induction n with
  | zero => simp [mulP]
  | succ n ih => simp only [mulP]; rw [ih, tb_xor, scaled _ _ _ _ (tb_lt _ _) (tb_lt _ _) (tb_lt _ _), nx4]
def turn (i : Nat) : Nat := (((1 <<< i ^^^ 1 <<< (i - 8)) ^^^ 1 <<< (i - 7)) ^^^ 1 <<< (i - 5)) ^^^ 1 <<< (i - 4)
theorem red1_is (P i : Nat) : red1 P i = P ^^^ turn i := by simp only [red1, turn, Nat.xor_assoc]
theorem redN_xor (P Q m : Nat) : redN (P ^^^ Q) m = redN P m ^^^ redN Q m := by
  induction m with
  | zero => rfl
  | succ m ih =>
    simp only [redN, ih, tb_xor, red1_is]
    have h1 := tb_lt (redN P m) (14 - m)
    have h2 := tb_lt (redN Q m) (14 - m)
    generalize tb (redN P m) (14 - m) = x at *
    generalize tb (redN Q m) (14 - m) = y at *
    have hx : x = 0 ∨ x = 1 := by omega
    have hy : y = 0 ∨ y = 1 := by omega
    rcases hx with rfl | rfl <;> rcases hy with rfl | rfl <;> simp
    · rw [Nat.xor_assoc]
    · rw [Nat.xor_assoc, Nat.xor_assoc, Nat.xor_comm (redN Q m)]
    · rw [nx4, Nat.xor_self, Nat.xor_zero]
theorem refMulN_xor (a b b' : Nat) : refMulN a (b ^^^ b') = refMulN a b ^^^ refMulN a b' := by
  simp only [refMulN, mulP_xor, redN_xor, outN_xor]
theorem refMulN_zero (a : Nat) : refMulN a 0 = 0 := by
  have := refMulN_xor a 0 0
  simpa using this
/-- All products with numbers below a power of two. -/
def dbl (a : Nat) : Nat → List Nat
  | 0 => [0]
  | k + 1 => dbl a k ++ (dbl a k).map (fun x => refMulN a (2 ^ k) ^^^ x)
theorem dbl_is (a k : Nat) : dbl a k = (List.range (2 ^ k)).map (refMulN a) := by
  induction k with
  | zero => simp [dbl, refMulN_zero, List.range_succ]
  | succ k ih =>
    simp only [dbl, ih]
    rw [show 2 ^ (k + 1) = 2 ^ k + 2 ^ k by rw [Nat.pow_succ]; omega, List.range_add, List.map_append, List.map_map, List.map_map]
    congr 1
    refine List.map_congr_left fun j hj => ?_
    have hj : j < 2 ^ k := List.mem_range.1 hj
    show refMulN a (2 ^ k) ^^^ refMulN a j = refMulN a (2 ^ k + j)
    rw [← refMulN_xor]
    congr 1
    have h1 := Nat.two_pow_add_eq_or_of_lt hj 1
    rw [Nat.mul_one] at h1
    rw [h1]
    apply Nat.eq_of_testBit_eq
    intro i
    rw [Nat.testBit_xor, Nat.testBit_or, Nat.testBit_two_pow]
    by_cases hi : k = i
    · subst hi; rw [Nat.testBit_lt_two_pow hj]; simp
    · simp [hi]
/-- The first number whose product is 1; none: nought. -/
def invN (a : Nat) : Nat := let i := (dbl a 8).findIdx (· == 1); if i < 256 then i else 0
theorem invN_of (a r : Nat) (hr : r < 256) (h1 : refMulN a r = 1) (h0 : ∀ j, j < r → refMulN a j ≠ 1) : invN a = r := by
  unfold invN
  have e : (dbl a 8).findIdx (· == 1) = r := by
    rw [dbl_is, List.findIdx_eq (by simpa using hr)]
    refine ⟨by simpa using h1, fun j hj => ?_⟩
    simpa using h0 j hj
  simp only [e, if_pos hr]
theorem invN_none (a : Nat) (h0 : ∀ j, j < 256 → refMulN a j ≠ 1) : invN a = 0 := by
  unfold invN
  have e : (dbl a 8).findIdx (· == 1) = 256 := by
    have : (dbl a 8).findIdx (· == 1) = (dbl a 8).length := by
      rw [List.findIdx_eq_length, dbl_is]
      intro x hx
      obtain ⟨j, hj, rfl⟩ := List.mem_map.1 hx
      simpa using h0 j (List.mem_range.1 hj)
    rw [this, dbl_is]; simp
  simp [e]
theorem invN_lt (a : Nat) : invN a < 256 := by unfold invN; simp only; split <;> omega
/-- The document's substitution, bit by bit: so many rounds. -/
def subN (v : Nat) : Nat → Nat
  | 0 => 0
  | m + 1 => (subN v m * 2 + (tb v (7 - m) + tb v ((7 - m + 4) % 8) + tb v ((7 - m + 5) % 8) + tb v ((7 - m + 6) % 8) + tb v ((7 - m + 7) % 8) + tb 99 (7 - m)) % 2) % 256
theorem subN_succ (v m : Nat) : subN v (m + 1) = (subN v m * 2 + (tb v (7 - m) + tb v ((7 - m + 4) % 8) + tb v ((7 - m + 5) % 8) + tb v ((7 - m + 6) % 8) + tb v ((7 - m + 7) % 8) + tb 99 (7 - m)) % 2) % 256 := rfl
theorem subN_lt (v m : Nat) : subN v m < 256 := by cases m with
  | zero => exact Nat.zero_lt_of_lt (show 0 < 256 by decide)
  | succ m => exact Nat.mod_lt _ (by decide)
theorem sub_all : ∀ n : Fin 256, subN (invN n) 8 = (sboxL.getD n 0).toNat := by decide +kernel
theorem sub_is (b : UInt8) : subN (invN b.toNat) 8 = (subB b).toNat := sub_all ⟨b.toNat, b.toNat_lt⟩
end Go.Proofs.Ytkfbfgjfdjhjdaa
