/-
  Plain numbers: the document's product of bytes, bit by bit. No program in sight.
-/
import Derived.Test.YtkfbfgjfdjhjdaaPlain
import Derived.Test.YtkfbfgjfdjhjdaaField
namespace Go.Proofs.Ytkfbfgjfdjhjdaa
open Go.ChangeShapes Go.WideShapes Go.ChangeAt Go.RowKit

/-- A bit of a number. -/
def tb (x i : Nat) : Nat := x / 2 ^ i % 2
theorem tb_lt (x i : Nat) : tb x i < 2 := Nat.mod_lt _ (by decide)
theorem tb_is (x i : Nat) : tb x i = (x.testBit i).toNat := by
  rw [Nat.testBit_eq_decide_div_mod_eq]; unfold tb
  have := Nat.mod_lt (x / 2 ^ i) (show 0 < 2 by decide)
  by_cases h : x / 2 ^ i % 2 = 1
  · simp [h]
  · simp [h]; omega


theorem tb_le (x i : Nat) : tb x i ≤ 1 := by have := tb_lt x i; omega
theorem tb_xor (x y i : Nat) : tb (x ^^^ y) i = (tb x i + tb y i) % 2 := by
  rw [tb_is, tb_is, tb_is, Nat.testBit_xor]
  cases x.testBit i <;> cases y.testBit i <;> rfl
theorem tb_zero (i : Nat) : tb 0 i = 0 := by simp [tb]
theorem tb_shift (v i j : Nat) (hv : v < 2) : tb (v <<< i) j = if i = j then v else 0 := by
  have hv : v = 0 ∨ v = 1 := by omega
  rcases hv with rfl | rfl
  · simp [tb]
  · rw [tb_is, Nat.one_shiftLeft, Nat.testBit_two_pow]
    by_cases h : i = j <;> simp [h]
/-- Fifteen bits as cells. -/
def pl (P : Nat) : List Value := (List.range 15).map fun j => .int .i64 (tb P j)
def pc (P : Nat) : Array Value := (pl P).toArray
theorem pc_size (P : Nat) : csz (pc P) = 15 := by simp [csz, pc, pl]
theorem pc_any (P j : Nat) : (pc P)[j]? = if j < 15 then some (.int .i64 (tb P j)) else none := by
  by_cases h : j < 15 <;> simp [pc, pl, h]
theorem pc_get (P j : Nat) (hj : j < 15) : (pc P)[j]? = some (.int .i64 (tb P j)) := by rw [pc_any, if_pos hj]
/-- One bit written over. -/
theorem pc_put (P Q j : Nat) (x : Int) (hx : x = tb Q j) (h : ∀ k, k < 15 → k ≠ j → tb P k = tb Q k) : (pc P).setIfInBounds j (.int .i64 x) = pc Q := by
  apply Array.ext_getElem?
  intro k
  rw [Array.getElem?_setIfInBounds, pc_any, pc_any]
  by_cases hj : j = k
  · subst hj
    rw [if_pos rfl, hx, show (pc P).size = 15 by simp [pc, pl]]
  · rw [if_neg hj]
    by_cases hk : k < 15
    · rw [if_pos hk, if_pos hk, h k hk (fun e => hj e.symm)]
    · rw [if_neg hk, if_neg hk]
theorem pc_set (P j v : Nat) (hv : v < 2) : (pc P).setIfInBounds j (.int .i64 (((tb P j : Int) + (v : Int)) % 2)) = pc (P ^^^ (v <<< j)) := by
  refine pc_put P _ j _ ?_ (fun k _ h => ?_)
  · rw [tb_xor, tb_shift v j j hv, if_pos rfl]; rfl
  · rw [tb_xor, tb_shift v j k hv, if_neg (fun e => h e.symm)]; have := tb_lt P k; omega
theorem tb_flip (P j : Nat) : (1 : Int) - (tb P j : Int) = tb (P ^^^ (1 <<< j)) j := by
  rw [tb_xor, tb_shift 1 j j (by decide), if_pos rfl]; have := tb_lt P j; omega
theorem tb_flip' (P j k : Nat) (h : k ≠ j) : tb P k = tb (P ^^^ (1 <<< j)) k := by
  rw [tb_xor, tb_shift 1 j k (by decide), if_neg (fun e => h e.symm)]; have := tb_lt P k; omega
theorem pc_flip (P j : Nat) : (pc P).setIfInBounds j (.int .i64 ((1 : Int) - (tb P j : Int))) = pc (P ^^^ (1 <<< j)) := pc_put P _ j _ (tb_flip P j) (fun k _ h => tb_flip' P j k h)
theorem pc_clear (P j : Nat) (h1 : tb P j = 1) : (pc P).setIfInBounds j (.int .i64 0) = pc (P ^^^ (1 <<< j)) := by
  have := pc_flip P j; rw [h1] at this; exact this

def mulP (a b : Nat) : Nat → Nat
  | 0 => 0
  | n + 1 => mulP a b n ^^^ ((tb a (n / 8) * tb b (n % 8)) <<< (n / 8 + n % 8))
theorem mulP_succ (a b i k : Nat) (hk : k < 8) : mulP a b (8 * i + (k + 1)) = mulP a b (8 * i + k) ^^^ ((tb a i * tb b k) <<< (i + k)) := by
  have e1 : (8 * i + k) / 8 = i := by omega
  have e2 : (8 * i + k) % 8 = k := by omega
  show mulP a b ((8 * i + k) + 1) = _
  simp only [mulP, e1, e2]
/-- Five bits turned: x to the i is put as what it comes to. -/
def red1 (P i : Nat) : Nat := ((((P ^^^ (1 <<< i)) ^^^ (1 <<< (i - 8))) ^^^ (1 <<< (i - 7))) ^^^ (1 <<< (i - 5))) ^^^ (1 <<< (i - 4))
theorem pc_flip' (P0 Q j : Nat) (h : tb P0 j = tb Q j) : (pc Q).setIfInBounds j (.int .i64 ((1 : Int) - (tb P0 j : Int))) = pc (Q ^^^ (1 <<< j)) := by rw [h, pc_flip]
theorem pc_red (P i : Nat) (h8 : 8 ≤ i) (h1 : tb P i = 1) :
    (((((pc P).setIfInBounds i (.int .i64 0)).setIfInBounds (i - 8) (.int .i64 ((1 : Int) - (tb P (i - 8) : Int)))).setIfInBounds (i - 7) (.int .i64 ((1 : Int) - (tb P (i - 7) : Int)))).setIfInBounds (i - 5) (.int .i64 ((1 : Int) - (tb P (i - 5) : Int)))).setIfInBounds (i - 4) (.int .i64 ((1 : Int) - (tb P (i - 4) : Int))) = pc (red1 P i) := by
  have f (Q j k : Nat) (h : k ≠ j) (e : tb P k = tb Q k) : tb P k = tb (Q ^^^ (1 <<< j)) k := e.trans (tb_flip' Q j k h)
  rw [pc_clear P i h1, pc_flip' P _ (i - 8) (f _ _ _ (by omega) rfl), pc_flip' P _ (i - 7) (f _ _ _ (by omega) (f _ _ _ (by omega) rfl)),
    pc_flip' P _ (i - 5) (f _ _ _ (by omega) (f _ _ _ (by omega) (f _ _ _ (by omega) rfl))), pc_flip' P _ (i - 4) (f _ _ _ (by omega) (f _ _ _ (by omega) (f _ _ _ (by omega) (f _ _ _ (by omega) rfl))))]
  rfl
def redN (P : Nat) : Nat → Nat
  | 0 => P
  | m + 1 => if tb (redN P m) (14 - m) = 1 then red1 (redN P m) (14 - m) else redN P m
theorem redN_succ (P i : Nat) (h8 : 8 ≤ i) (hi : i ≤ 14) : redN P (14 - i + 1) = if tb (redN P (14 - i)) i = 1 then red1 (redN P (14 - i)) i else redN P (14 - i) := by
  show (if tb (redN P (14 - i)) (14 - (14 - i)) = 1 then red1 (redN P (14 - i)) (14 - (14 - i)) else redN P (14 - i)) = _
  rw [show 14 - (14 - i) = i by omega]
def outN (P : Nat) : Nat → Nat
  | 0 => 0
  | m + 1 => 2 * outN P m + tb P (7 - m)
theorem outN_succ (P m : Nat) : outN P (m + 1) = 2 * outN P m + tb P (7 - m) := rfl
theorem outN_lt (P m : Nat) : outN P m < 2 ^ m := by
  induction m with
  | zero => simp [outN]
  | succ m ih => have := tb_lt P (7 - m); simp only [outN]; rw [Nat.pow_succ]; omega
/-- The document's product. -/
def refMulN (a b : Nat) : Nat := outN (redN (mulP a b 64) 7) 8
theorem refMulN_lt (a b : Nat) : refMulN a b < 256 := outN_lt _ 8
def refMulB (a b : UInt8) : UInt8 := UInt8.ofNat (refMulN a.toNat b.toNat)
theorem refMulB_nat (a b : UInt8) : (refMulB a b).toNat = refMulN a.toNat b.toNat := by
  have := refMulN_lt a.toNat b.toNat
  simp [refMulB]; omega

/-! ### It is the field's own product: by lines of the second number's bits -/
theorem mulN_2 : ∀ a : Fin 256, refMulN a 2 = (mulB (UInt8.ofNat a) 2).toNat := by decide +kernel
theorem mulN_3 : ∀ a : Fin 256, refMulN a 3 = (mulB (UInt8.ofNat a) 3).toNat := by decide +kernel
theorem refMul_2 (a : UInt8) : refMulN a.toNat 2 = (mulB a 2).toNat := by simpa using mulN_2 ⟨a.toNat, a.toNat_lt⟩
theorem refMul_3 (a : UInt8) : refMulN a.toNat 3 = (mulB a 3).toNat := by simpa using mulN_3 ⟨a.toNat, a.toNat_lt⟩
end Go.Proofs.Ytkfbfgjfdjhjdaa
