/-
  What the field's Twice and Mul answer for whatever bytes. No condition.
-/
import Derived.Test.YtkfbfgjfdjhjdaaTypes
import Derived.Test.YtkfbfgjfdjhjdaaTail
namespace Go.Proofs.Ytkfbfgjfdjhjdaa
open Go.ChangeShapes Go.WideShapes Go.ChangeAt Go.RowKit

def twiceB (b : UInt8) : UInt8 := (b <<< 1) ^^^ ((27 : UInt8) * (b >>> 7))
def mulGo : Nat → UInt8 → UInt8 → UInt8 → UInt8
  | 0, _, _, out => out
  | n + 1, a, b, out => if b = 0 then out else mulGo n (twiceB a) (b >>> 1) (out ^^^ a * (b &&& 1))
def mulB (a b : UInt8) : UInt8 := mulGo 8 a b 0

theorem u8_ofInt (x : UInt8) : (x.toNat : Int) < 256 := by have := x.toNat_lt; omega
theorem xor_u8 (x y : UInt8) : bits .xor .u8 (x.toNat : Int) (y.toNat : Int) = ((x ^^^ y).toNat : Int) := by
  rw [u8_xor_nat _ _ x.toNat_lt y.toNat_lt]; simp
theorem and_u8 (x y : UInt8) : bits .and .u8 (x.toNat : Int) (y.toNat : Int) = ((x &&& y).toNat : Int) := by
  rw [u8_and_nat _ _ x.toNat_lt y.toNat_lt]; simp

theorem bvs4 (a b c d : UInt8) : #[Value.int .u8 (a.toNat : Int), .int .u8 (b.toNat : Int), .int .u8 (c.toNat : Int), .int .u8 (d.toNat : Int)] = bvs [a, b, c, d] := rfl

set_option maxRecDepth 100000 in
theorem twice_all : ∀ n : Fin 256, bits .xor .u8 (((UInt8.ofNat n).toNat : Int) * 2 % 256) (27 * (((UInt8.ofNat n).toNat : Int) / 128)) = ((twiceB (UInt8.ofNat n)).toNat : Int) := by decide +kernel
theorem twice_u8 (b : UInt8) : bits .xor .u8 ((b.toNat : Int) * 2 % 256) (27 * ((b.toNat : Int) / 128)) = ((twiceB b).toNat : Int) := by
  have := twice_all ⟨b.toNat, b.toNat_lt⟩
  simpa using this

set_option maxHeartbeats 400000 in
theorem twice_any (b : UInt8) (w : World) : Calls Try.prog 67 #[.int .u8 b.toNat] w fun e w' => e = .returned (.int .u8 (twiceB b).toNat) ∧ w = w' := by
  have h := u8_ofInt b
  go_enter Try.func67, Try.ntmps67
  go_wp2
  go_ret
  exact ⟨ret_int (twice_u8 b), rfl⟩

theorem shr1_u8 (b : UInt8) : (b.toNat : Int) / (2 : Int) = ((b >>> 1).toNat : Int) := by
  rw [UInt8.toNat_shiftRight]; simp [Nat.shiftRight_eq_div_pow]
theorem mulstep_u8 (x y o : UInt8) : bits .xor .u8 (o.toNat : Int) ((x.toNat : Int) * bits .and .u8 (y.toNat : Int) 1 % 256) = ((o ^^^ x * (y &&& 1)).toNat : Int) := by
  have h1 : bits .and .u8 (y.toNat : Int) 1 = ((y &&& 1).toNat : Int) := and_u8 y 1
  have h2 : (x.toNat : Int) * ((y &&& 1).toNat : Int) % 256 = ((x * (y &&& 1)).toNat : Int) := by rw [UInt8.toNat_mul, Int.natCast_emod, Int.natCast_mul]; rfl
  rw [h1, h2, xor_u8]
theorem mulGo_succ (n : Nat) (a b out : UInt8) : mulGo (n + 1) a b out = if b = 0 then out else mulGo n (twiceB a) (b >>> 1) (out ^^^ a * (b &&& 1)) := rfl
theorem mulGo_zero (n : Nat) (a out : UInt8) : mulGo n a 0 out = out := by cases n <;> simp [mulGo]

set_option maxHeartbeats 400000 in
theorem mul_any (a b : UInt8) (w : World) : Calls Try.prog 63 #[.int .u8 a.toNat, .int .u8 b.toNat] w fun e w' => e = .returned (.int .u8 (mulB a b).toNat) ∧ w = w' := by
  go_enter Try.func63, Try.ntmps63
  go_wp2
  go_loop [0, 1, 5] (fun u0 u1 u5 => ∃ (x y o : UInt8) (n : Nat), y.toNat < 2 ^ n ∧ mulGo n x y o = mulB a b ∧ u0 = .int .u8 x.toNat ∧ u1 = .int .u8 y.toNat ∧ u5 = .int .u8 o.toNat) (fun _ i _ => (intOf i).toNat)
  case atStart => exact ⟨a, b, 0, 8, b.toNat_lt, rfl, rfl, rfl, rfl⟩
  case round =>
    obtain ⟨x, y, o, n, hy, hm, rfl, rfl, rfl⟩ := hrel
    have hx := u8_ofInt x
    have hy8 := u8_ofInt y
    have HM := hid hm; clear hm
    have HY := hid hy; clear hy
    by_cases h0 : 0 < y.toNat
    · have e1 := hid (mulstep_u8 x y o)
      have e2 := hid (shr1_u8 y)
      go_wp2_with fail
      refine (twice_any x _).mono ?_
      rintro e w' ⟨rfl, rfl⟩
      go_wp2
      go_round
      case rel =>
        have hn : ∃ m, n = m + 1 := by
          cases n with
          | zero => have := HY.out; omega
          | succ m => exact ⟨m, rfl⟩
        obtain ⟨m, rfl⟩ := hn
        refine ⟨twiceB x, y >>> 1, o ^^^ x * (y &&& 1), m, ?_, ?_, rfl, by rw [e2.out], by rw [e1.out]⟩
        · have := HY.out; rw [UInt8.toNat_shiftRight]; simp [Nat.shiftRight_eq_div_pow]; rw [Nat.pow_succ] at this; omega
        · rw [← HM.out, mulGo_succ, if_neg (by intro h; subst h; simp at h0)]
      case measure => simp [intOf]; omega
    · have hy0 : y = 0 := by rw [← UInt8.toNat_inj]; simp; omega
      have HM2 := HM.out
      rw [hy0, mulGo_zero] at HM2
      have HM3 := hid HM2; clear HM2
      clear HM HY
      subst hy0
      go_wp2
      go_ret
      exact ⟨ret_int (by rw [HM3.out]), rfl⟩
end Go.Proofs.Ytkfbfgjfdjhjdaa
