/-
  What the document's bit and Mul answer for whatever bytes. No condition.
-/
import Derived.Test.YtkfbfgjfdjhjdaaField
import Derived.Test.YtkfbfgjfdjhjdaaRefMulP
namespace Go.Proofs.Ytkfbfgjfdjhjdaa
open Go.ChangeShapes Go.WideShapes Go.ChangeAt Go.RowKit

set_option maxHeartbeats 400000 in
theorem bit_any (b : UInt8) (i : Nat) (hi : i < 100) (w : World) : Calls Try.prog 66 #[.int .u8 b.toNat, .int .i64 i] w fun e w' => e = .returned (.int .i64 (tb b.toNat i)) ∧ w = w' := by
  have hb := b.toNat_lt
  go_enter Try.func66, Try.ntmps66
  go_wp2
  go_loop [0, 5] (fun u0 u5 => ∃ k : Nat, k ≤ i ∧ u0 = .int .u8 ((b.toNat / 2 ^ k : Nat) : Int) ∧ u5 = .int .i64 k) (fun _ u => i - (intOf u).toNat)
  case atStart => exact ⟨0, by omega, by simp, rfl⟩
  case round =>
    obtain ⟨k, hk, rfl, rfl⟩ := hrel
    have hd : b.toNat / 2 ^ k ≤ b.toNat := Nat.div_le_self _ _
    obtain ⟨x, hx⟩ : ∃ x, b.toNat / 2 ^ k = x := ⟨_, rfl⟩
    have HX := hid hx
    rw [hx] at hd
    rw [hx]
    clear hx
    by_cases hlt : k < i
    · go_wp2
      go_round
      case rel => exact ⟨k + 1, by omega, by rw [Nat.pow_succ, ← Nat.div_div_eq_div_mul, HX.out]; rfl, by go_num⟩
      case measure => simp [intOf]; omega
    · obtain rfl : k = i := by omega
      go_wp2
      go_ret
      exact ⟨ret_int (by unfold tb; rw [HX.out]; omega), rfl⟩

theorem pc_zero : #[Value.int .i64 0, .int .i64 0, .int .i64 0, .int .i64 0, .int .i64 0, .int .i64 0, .int .i64 0, .int .i64 0, .int .i64 0, .int .i64 0, .int .i64 0, .int .i64 0, .int .i64 0, .int .i64 0, .int .i64 0] = pc 0 := rfl
attribute [local irreducible] pc mulP redN outN tb red1

set_option maxRecDepth 100000 in
set_option maxHeartbeats 1000000 in
theorem refMul_any (a b : UInt8) (w : World) :
    Calls Try.prog 57 #[.int .u8 a.toNat, .int .u8 b.toNat] w fun e w' => e = .returned (.int .u8 (refMulN a.toNat b.toNat)) ∧ Below w.heap.size w w' := by
  have z0 := pc_zero
  go_enter Try.func57, Try.ntmps57
  go_wp2_with fail
  go_loopw [6, 7] (fun u6 u7 wr => ∃ i : Nat, i ≤ 8 ∧ u6 = .int .i64 i ∧ St w wr [(w.heap.size, pc (mulP a.toNat b.toNat (8 * i)), 77)])
    (fun i _ _ => 8 - (intOf i).toNat)
  case atStart => exact ⟨0, by omega, rfl, by rw [show mulP a.toNat b.toNat (8 * 0) = 0 by unfold mulP; rfl]; exact (St.alloc' (St.start w) (by first | rfl | simp))⟩
  case round =>
    obtain ⟨i, hi, rfl, hS⟩ := hrel
    by_cases hlt : i < 8
    · go_wp2_with fail
      go_loopw [7] (fun u7 wr => ∃ k : Nat, k ≤ 8 ∧ u7 = .int .i64 k ∧ St w wr [(w.heap.size, pc (mulP a.toNat b.toNat (8 * i + k)), 77)])
        (fun i _ => 8 - (intOf i).toNat)
      case atStart => exact ⟨0, by omega, rfl, hS⟩
      case round =>
        clear hS
        obtain ⟨k, hk, rfl, hS⟩ := hrel
        by_cases hlt2 : k < 8
        · have hx := pc_get (mulP a.toNat b.toNat (8 * i + k)) (i + k) (by omega)
          have j1 : (0 : Int) ≤ (i : Int) + (k : Int) := by omega
          have j2 : (i : Int) + (k : Int) < 15 := by omega
          have j3 : ((i : Int) + (k : Int)).toNat = i + k := by omega
          have hz := tb_le (mulP a.toNat b.toNat (8 * i + k)) (i + k)
          have ha := tb_le a.toNat i
          have hb := tb_le b.toNat k
          have hm : IntKind.i64.wrap ((tb a.toNat i : Int) * (tb b.toNat k : Int)) = ((tb a.toNat i * tb b.toNat k : Nat) : Int) := by
            rw [← Int.natCast_mul]
            have : tb a.toNat i * tb b.toNat k ≤ 1 * 1 := Nat.mul_le_mul ha hb
            exact IntWalk.i64_in _ (by omega)
          have hm2 : tb a.toNat i * tb b.toNat k ≤ 1 := by
            have : tb a.toNat i * tb b.toNat k ≤ 1 * 1 := Nat.mul_le_mul ha hb
            omega
          go_wp2_with fail
          refine region_tail_lit (by kernel_rfl) (by kernel_rfl) ?_
          dsimp only [List.dropLast, List.getLast?, List.getLast, Option.getD]
          repeat (first | (refine BigFrame.wpQuiet_skip rfl ?_; simp only [Act.put, List.setIfInBounds_toArray, List.set_cons_zero, List.set_cons_succ]) | (refine BigFrame.wpQuiet_want rfl (fun K hK => ?_); apply Exists.intro; refine ⟨fun w' hw' => ?_, hK _ ?_⟩; (focus (have zS := hS.cls hw'; obtain ⟨zb0, zc0, zf0, zl0, zn0⟩ := zS.at 0 rfl; clear zS; go_simp; (try (go_bits; go_simp)); first | done | rfl | ((go_at_call 66; refine (bit_any _ _ (by omega) _).mono ?_; exact fun e w' ⟨he, hw⟩ => ⟨he, hw ▸ hw'⟩)))); clear hK K; simp only [Act.put, List.setIfInBounds_toArray, List.set_cons_zero, List.set_cons_succ]))
          refine wpQuiet_nil ?_
          intro w2 hc
          have hS2 := hS.cls hc
          clear hS hc
          obtain ⟨kb0, kc0, kf0, kl0, kn0⟩ := hS2.at 0 rfl
          go_wp2
          go_roundw
          case rel =>
            refine ⟨k + 1, by omega, by go_num, ?_⟩
            have h3 := hS2.setCell 0 rfl (i + k) (.int .i64 (((tb (mulP a.toNat b.toNat (8 * i + k)) (i + k) : Int) + ((tb a.toNat i * tb b.toNat k : Nat) : Int)) % 2))
            have e3 := pc_set (mulP a.toNat b.toNat (8 * i + k)) (i + k) (tb a.toNat i * tb b.toNat k) (by omega)
            rw [← mulP_succ _ _ _ _ hlt2] at e3
            have h3' := h3
            rw [show (List.set [(w.heap.size, pc (mulP a.toNat b.toNat (8 * i + k)), 77)] 0 (w.heap.size, (pc (mulP a.toNat b.toNat (8 * i + k))).setIfInBounds (i + k) (.int .i64 (((tb (mulP a.toNat b.toNat (8 * i + k)) (i + k) : Int) + ((tb a.toNat i * tb b.toNat k : Nat) : Int)) % 2)), 77)) = [(w.heap.size, pc (mulP a.toNat b.toNat (8 * i + (k + 1))), 77)] by rw [e3]; rfl] at h3'
            rw [Int.natCast_mul] at h3'
            exact h3'
          case measure => simp [intOf]; omega
        · obtain rfl : k = 8 := by omega
          clear hk hlt2
          go_wp2
          go_roundw
          case rel => exact ⟨i + 1, by omega, by go_num, by rw [show 8 * (i + 1) = 8 * i + 8 by omega]; exact hS⟩
          case measure => simp [intOf]; omega
    · obtain rfl : i = 8 := by omega
      clear hi hlt
      have hS : St w wr [(w.heap.size, pc (mulP a.toNat b.toNat 64), 77)] := hS
      go_wp2_with fail
      go_loopw [8] (fun u8 wr => ∃ i : Nat, 7 ≤ i ∧ i ≤ 14 ∧ u8 = .int .i64 i ∧ St w wr [(w.heap.size, pc (redN (mulP a.toNat b.toNat 64) (14 - i)), 77)])
        (fun i _ => (intOf i).toNat)
      case atStart => exact ⟨14, by omega, by omega, rfl, by rw [show redN (mulP a.toNat b.toNat 64) (14 - 14) = mulP a.toNat b.toNat 64 by unfold redN; rfl]; exact hS⟩
      case round =>
        clear hS
        obtain ⟨i, hi7, hi14, rfl, hS⟩ := hrel
        by_cases hlt : 8 ≤ i
        · have hr := hid (redN_succ (mulP a.toNat b.toNat 64) i hlt hi14)
          obtain ⟨P, hP⟩ : ∃ P, redN (mulP a.toNat b.toNat 64) (14 - i) = P := ⟨_, rfl⟩
          have HP := hid hP
          rw [hP] at hS
          clear hP
          obtain ⟨kb0, kc0, kf0, kl0, kn0⟩ := hS.at 0 rfl
          have hx := pc_get P i (by omega)
          have hz := tb_le P i
          by_cases ht : tb P i = 1
          · rw [ht] at hx
            have hx8 := pc_get P (i - 8) (by omega)
            have hx7 := pc_get P (i - 7) (by omega)
            have hx5 := pc_get P (i - 5) (by omega)
            have hx4 := pc_get P (i - 4) (by omega)
            have hz8 := tb_le P (i - 8)
            have hz7 := tb_le P (i - 7)
            have hz5 := tb_le P (i - 5)
            have hz4 := tb_le P (i - 4)
            have HT := hid ht
            clear ht
            go_wp2
            go_roundw
            case rel =>
              refine ⟨i - 1, by omega, by omega, by go_num, ?_⟩
              have h3 := ((((hS.setCell 0 rfl i (.int .i64 0)).setCell 0 rfl (i - 8) (.int .i64 ((1 : Int) - (tb P (i - 8) : Int)))).setCell 0 rfl (i - 7) (.int .i64 ((1 : Int) - (tb P (i - 7) : Int)))).setCell 0 rfl (i - 5) (.int .i64 ((1 : Int) - (tb P (i - 5) : Int)))).setCell 0 rfl (i - 4) (.int .i64 ((1 : Int) - (tb P (i - 4) : Int)))
              rw [pc_red P i hlt HT.out] at h3
              rw [show 14 - (i - 1) = 14 - i + 1 by omega, hr.out, HP.out, if_pos HT.out]
              exact h3
            case measure => simp [intOf]; omega
          · have ht0 : tb P i = 0 := by omega
            rw [ht0] at hx
            clear ht
            have HT := hid ht0; clear ht0
            go_wp2
            go_roundw
            case rel => exact ⟨i - 1, by omega, by omega, by go_num, by rw [show 14 - (i - 1) = 14 - i + 1 by omega, hr.out, HP.out, HT.out, if_neg (by decide)]; exact hS⟩
            case measure => simp [intOf]; omega
        · obtain rfl : i = 7 := by omega
          clear hi7 hi14 hlt
          have hS : St w wr [(w.heap.size, pc (redN (mulP a.toNat b.toNat 64) 7), 77)] := hS
          obtain ⟨R, hR⟩ : ∃ R, redN (mulP a.toNat b.toNat 64) 7 = R := ⟨_, rfl⟩
          rw [hR] at hS
          have HR := hid hR
          clear hR
          go_wp2_with fail
          obtain ⟨kb0, kc0, kf0, kl0, kn0⟩ := hS.at 0 rfl
          go_loop [9, 10] (fun u9 u10 => ∃ m : Nat, m ≤ 8 ∧ u9 = .int .i64 (outN R m) ∧ u10 = .int .i64 (7 - (m : Int))) (fun _ i => ((intOf i) + 1).toNat)
          case atStart => exact ⟨0, by omega, by unfold outN; rfl, rfl⟩
          case round =>
            obtain ⟨m, hm, rfl, rfl⟩ := hrel
            by_cases hlt : m < 8
            · have hx := pc_get R (7 - m) (by omega)
              have hz := tb_le R (7 - m)
              have ho : outN R m < 256 := by
                have h1 := outN_lt R m
                have h2 : 2 ^ m ≤ 2 ^ 8 := Nat.pow_le_pow_right (by decide) hm
                omega
              go_wp2
              go_round
              case rel => exact ⟨m + 1, by omega, by rw [outN_succ]; go_num, by go_num⟩
              case measure => simp [intOf]; omega
            · obtain rfl : m = 8 := by omega
              have ho := outN_lt R 8
              have hB := hS.below
              go_wp2
              go_ret
              exact ⟨ret_int (by unfold refMulN; rw [HR.out]), hB⟩

set_option maxHeartbeats 400000 in
theorem refmul_any (a b : UInt8) (w : World) : Calls Try.prog 51 #[.int .u8 a.toNat, .int .u8 b.toNat] w fun e w' => e = .returned (.int .u8 (refMulN a.toNat b.toNat)) ∧ Below w.heap.size w w' := by
  go_enter Try.func51, Try.ntmps51
  go_wp2_with fail
  refine (refMul_any a b _).mono ?_
  rintro e w1 ⟨rfl, hb⟩
  go_wp2
  go_ret
  exact ⟨rfl, hb⟩
end Go.Proofs.Ytkfbfgjfdjhjdaa
