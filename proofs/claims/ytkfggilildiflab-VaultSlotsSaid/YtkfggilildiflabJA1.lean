/-
  Laws that the claims of this seat use, of several texts in one: RefMul, Mix, RefMix, MulP, Const, ConstW, Mono, Columns, ColumnsU, CipherMixW, Shift, Table, RefShift, Sums, Xor, SboxP, Sbox, SubAll, BackP, Back, Encrypt, Decrypt, TurnsP, RoundsP. No condition of their own.
-/
import Derived.Laws.CopyOwn
import Derived.Laws.Cover3
import Derived.Laws.Tables
import Derived.Lib.Bytealg
import Derived.Lib.BytesEntry
import Derived.Test.YtkfggilildiflabJA0

namespace Go.Proofs.Ytkfggilildiflab
open Go.ChangeShapes Go.WideShapes Go.ChangeAt Go.RowKit

set_option maxHeartbeats 400000 in
theorem bit_any (b : UInt8) (i : Nat) (hi : i < 100) (w : World) : Calls Try.prog 146 #[.int .u8 b.toNat, .int .i64 i] w fun e w' => e = .returned (.int .i64 (tb b.toNat i)) ∧ w = w' := by
  have hb := b.toNat_lt
  go_enter Try.func146, Try.ntmps146
  go_wp2
  go_loop [0, 5] (fun u0 u5 => ∃ k : Nat, k ≤ i ∧ u0 = .int .u8 ((b.toNat / 2 ^ k : Nat) : Int) ∧ u5 = .int .i64 k) (fun _ u => i - (intOf u).toNat)
  case atStart => exact ⟨0, by omega, by simp, rfl⟩
  case round =>
    obtain ⟨k, hk, rfl, rfl⟩ := hrel
    have hd : b.toNat / 2 ^ k ≤ b.toNat := Nat.div_le_self _ _
    obtain ⟨x, hx⟩ : ∃ x, b.toNat / 2 ^ k = x := ⟨_, rfl⟩
    have HX := hid hx
    rw [hx] at hd
    rw [hx]
    clear hx
    by_cases hlt : k < i
    · go_wp2
      go_round
      case rel => exact ⟨k + 1, by omega, by rw [Nat.pow_succ, ← Nat.div_div_eq_div_mul, HX.out]; rfl, by go_num⟩
      case measure => simp [intOf]; omega
    · obtain rfl : k = i := by omega
      go_wp2
      go_ret
      exact ⟨ret_int (by unfold tb; rw [HX.out]; omega), rfl⟩

theorem pc_zero : #[Value.int .i64 0, .int .i64 0, .int .i64 0, .int .i64 0, .int .i64 0, .int .i64 0, .int .i64 0, .int .i64 0, .int .i64 0, .int .i64 0, .int .i64 0, .int .i64 0, .int .i64 0, .int .i64 0, .int .i64 0] = pc 0 := rfl
attribute [local irreducible] pc mulP redN outN tb red1

set_option maxRecDepth 100000 in
set_option maxHeartbeats 1000000 in
theorem refMul_any (a b : UInt8) (w : World) :
    Calls Try.prog 130 #[.int .u8 a.toNat, .int .u8 b.toNat] w fun e w' => e = .returned (.int .u8 (refMulN a.toNat b.toNat)) ∧ Below w.heap.size w w' := by
  have z0 := pc_zero
  go_enter Try.func130, Try.ntmps130
  go_wp2_with fail
  go_loopw [6, 7] (fun u6 u7 wr => ∃ i : Nat, i ≤ 8 ∧ u6 = .int .i64 i ∧ St w wr [(w.heap.size, pc (mulP a.toNat b.toNat (8 * i)), 206)])
    (fun i _ _ => 8 - (intOf i).toNat)
  case atStart => exact ⟨0, by omega, rfl, by rw [show mulP a.toNat b.toNat (8 * 0) = 0 by unfold mulP; rfl]; exact (St.alloc' (St.start w) (by first | rfl | simp))⟩
  case round =>
    obtain ⟨i, hi, rfl, hS⟩ := hrel
    by_cases hlt : i < 8
    · go_wp2_with fail
      go_loopw [7] (fun u7 wr => ∃ k : Nat, k ≤ 8 ∧ u7 = .int .i64 k ∧ St w wr [(w.heap.size, pc (mulP a.toNat b.toNat (8 * i + k)), 206)])
        (fun i _ => 8 - (intOf i).toNat)
      case atStart => exact ⟨0, by omega, rfl, hS⟩
      case round =>
        clear hS
        obtain ⟨k, hk, rfl, hS⟩ := hrel
        by_cases hlt2 : k < 8
        · have hx := pc_get (mulP a.toNat b.toNat (8 * i + k)) (i + k) (by omega)
          have j1 : (0 : Int) ≤ (i : Int) + (k : Int) := by omega
          have j2 : (i : Int) + (k : Int) < 15 := by omega
          have j3 : ((i : Int) + (k : Int)).toNat = i + k := by omega
          have hz := tb_le (mulP a.toNat b.toNat (8 * i + k)) (i + k)
          have ha := tb_le a.toNat i
          have hb := tb_le b.toNat k
          have hm : IntKind.i64.wrap ((tb a.toNat i : Int) * (tb b.toNat k : Int)) = ((tb a.toNat i * tb b.toNat k : Nat) : Int) := by
            rw [← Int.natCast_mul]
            have : tb a.toNat i * tb b.toNat k ≤ 1 * 1 := Nat.mul_le_mul ha hb
            exact IntWalk.i64_in _ (by omega)
          have hm2 : tb a.toNat i * tb b.toNat k ≤ 1 := by
            have : tb a.toNat i * tb b.toNat k ≤ 1 * 1 := Nat.mul_le_mul ha hb
            omega
          go_wp2_with fail
          refine region_tail_lit (by kernel_rfl) (by kernel_rfl) ?_
          dsimp only [List.dropLast, List.getLast?, List.getLast, Option.getD]
          repeat (first | (refine BigFrame.wpQuiet_skip rfl ?_; simp only [Act.put, List.setIfInBounds_toArray, List.set_cons_zero, List.set_cons_succ]) | (refine BigFrame.wpQuiet_want rfl (fun K hK => ?_); apply Exists.intro; refine ⟨fun w' hw' => ?_, hK _ ?_⟩; (focus (have zS := hS.cls hw'; obtain ⟨zb0, zc0, zf0, zl0, zn0⟩ := zS.at 0 rfl; clear zS; go_simp; (try (go_bits; go_simp)); first | done | rfl | ((go_at_call 146; refine (bit_any _ _ (by omega) _).mono ?_; exact fun e w' ⟨he, hw⟩ => ⟨he, hw ▸ hw'⟩)))); clear hK K; simp only [Act.put, List.setIfInBounds_toArray, List.set_cons_zero, List.set_cons_succ]))
          refine wpQuiet_nil ?_
          intro w2 hc
          have hS2 := hS.cls hc
          clear hS hc
          obtain ⟨kb0, kc0, kf0, kl0, kn0⟩ := hS2.at 0 rfl
          go_wp2
          go_roundw
          case rel =>
            refine ⟨k + 1, by omega, by go_num, ?_⟩
            have h3 := hS2.setCell 0 rfl (i + k) (.int .i64 (((tb (mulP a.toNat b.toNat (8 * i + k)) (i + k) : Int) + ((tb a.toNat i * tb b.toNat k : Nat) : Int)) % 2))
            have e3 := pc_set (mulP a.toNat b.toNat (8 * i + k)) (i + k) (tb a.toNat i * tb b.toNat k) (by omega)
            rw [← mulP_succ _ _ _ _ hlt2] at e3
            have h3' := h3
            rw [show (List.set [(w.heap.size, pc (mulP a.toNat b.toNat (8 * i + k)), 206)] 0 (w.heap.size, (pc (mulP a.toNat b.toNat (8 * i + k))).setIfInBounds (i + k) (.int .i64 (((tb (mulP a.toNat b.toNat (8 * i + k)) (i + k) : Int) + ((tb a.toNat i * tb b.toNat k : Nat) : Int)) % 2)), 206)) = [(w.heap.size, pc (mulP a.toNat b.toNat (8 * i + (k + 1))), 206)] by rw [e3]; rfl] at h3'
            rw [Int.natCast_mul] at h3'
            exact h3'
          case measure => simp [intOf]; omega
        · obtain rfl : k = 8 := by omega
          clear hk hlt2
          go_wp2
          go_roundw
          case rel => exact ⟨i + 1, by omega, by go_num, by rw [show 8 * (i + 1) = 8 * i + 8 by omega]; exact hS⟩
          case measure => simp [intOf]; omega
    · obtain rfl : i = 8 := by omega
      clear hi hlt
      have hS : St w wr [(w.heap.size, pc (mulP a.toNat b.toNat 64), 206)] := hS
      go_wp2_with fail
      go_loopw [8] (fun u8 wr => ∃ i : Nat, 7 ≤ i ∧ i ≤ 14 ∧ u8 = .int .i64 i ∧ St w wr [(w.heap.size, pc (redN (mulP a.toNat b.toNat 64) (14 - i)), 206)])
        (fun i _ => (intOf i).toNat)
      case atStart => exact ⟨14, by omega, by omega, rfl, by rw [show redN (mulP a.toNat b.toNat 64) (14 - 14) = mulP a.toNat b.toNat 64 by unfold redN; rfl]; exact hS⟩
      case round =>
        clear hS
        obtain ⟨i, hi7, hi14, rfl, hS⟩ := hrel
        by_cases hlt : 8 ≤ i
        · have hr := hid (redN_succ (mulP a.toNat b.toNat 64) i hlt hi14)
          obtain ⟨P, hP⟩ : ∃ P, redN (mulP a.toNat b.toNat 64) (14 - i) = P := ⟨_, rfl⟩
          have HP := hid hP
          rw [hP] at hS
          clear hP
          obtain ⟨kb0, kc0, kf0, kl0, kn0⟩ := hS.at 0 rfl
          have hx := pc_get P i (by omega)
          have hz := tb_le P i
          by_cases ht : tb P i = 1
          · rw [ht] at hx
            have hx8 := pc_get P (i - 8) (by omega)
            have hx7 := pc_get P (i - 7) (by omega)
            have hx5 := pc_get P (i - 5) (by omega)
            have hx4 := pc_get P (i - 4) (by omega)
            have hz8 := tb_le P (i - 8)
            have hz7 := tb_le P (i - 7)
            have hz5 := tb_le P (i - 5)
            have hz4 := tb_le P (i - 4)
            have HT := hid ht
            clear ht
            go_wp2
            go_roundw
            case rel =>
              refine ⟨i - 1, by omega, by omega, by go_num, ?_⟩
              have h3 := ((((hS.setCell 0 rfl i (.int .i64 0)).setCell 0 rfl (i - 8) (.int .i64 ((1 : Int) - (tb P (i - 8) : Int)))).setCell 0 rfl (i - 7) (.int .i64 ((1 : Int) - (tb P (i - 7) : Int)))).setCell 0 rfl (i - 5) (.int .i64 ((1 : Int) - (tb P (i - 5) : Int)))).setCell 0 rfl (i - 4) (.int .i64 ((1 : Int) - (tb P (i - 4) : Int)))
              rw [pc_red P i hlt HT.out] at h3
              rw [show 14 - (i - 1) = 14 - i + 1 by omega, hr.out, HP.out, if_pos HT.out]
              exact h3
            case measure => simp [intOf]; omega
          · have ht0 : tb P i = 0 := by omega
            rw [ht0] at hx
            clear ht
            have HT := hid ht0; clear ht0
            go_wp2
            go_roundw
            case rel => exact ⟨i - 1, by omega, by omega, by go_num, by rw [show 14 - (i - 1) = 14 - i + 1 by omega, hr.out, HP.out, HT.out, if_neg (by decide)]; exact hS⟩
            case measure => simp [intOf]; omega
        · obtain rfl : i = 7 := by omega
          clear hi7 hi14 hlt
          have hS : St w wr [(w.heap.size, pc (redN (mulP a.toNat b.toNat 64) 7), 206)] := hS
          obtain ⟨R, hR⟩ : ∃ R, redN (mulP a.toNat b.toNat 64) 7 = R := ⟨_, rfl⟩
          rw [hR] at hS
          have HR := hid hR
          clear hR
          go_wp2_with fail
          obtain ⟨kb0, kc0, kf0, kl0, kn0⟩ := hS.at 0 rfl
          go_loop [9, 10] (fun u9 u10 => ∃ m : Nat, m ≤ 8 ∧ u9 = .int .i64 (outN R m) ∧ u10 = .int .i64 (7 - (m : Int))) (fun _ i => ((intOf i) + 1).toNat)
          case atStart => exact ⟨0, by omega, by unfold outN; rfl, rfl⟩
          case round =>
            obtain ⟨m, hm, rfl, rfl⟩ := hrel
            by_cases hlt : m < 8
            · have hx := pc_get R (7 - m) (by omega)
              have hz := tb_le R (7 - m)
              have ho : outN R m < 256 := by
                have h1 := outN_lt R m
                have h2 : 2 ^ m ≤ 2 ^ 8 := Nat.pow_le_pow_right (by decide) hm
                omega
              go_wp2
              go_round
              case rel => exact ⟨m + 1, by omega, by rw [outN_succ]; go_num, by go_num⟩
              case measure => simp [intOf]; omega
            · obtain rfl : m = 8 := by omega
              have ho := outN_lt R 8
              have hB := hS.below
              go_wp2
              go_ret
              exact ⟨ret_int (by unfold refMulN; rw [HR.out]), hB⟩

set_option maxHeartbeats 400000 in
theorem refmul_any (a b : UInt8) (w : World) : Calls Try.prog 133 #[.int .u8 a.toNat, .int .u8 b.toNat] w fun e w' => e = .returned (.int .u8 (refMulN a.toNat b.toNat)) ∧ Below w.heap.size w w' := by
  go_enter Try.func133, Try.ntmps133
  go_wp2_with fail
  refine (refMul_any a b _).mono ?_
  rintro e w1 ⟨rfl, hb⟩
  go_wp2
  go_ret
  exact ⟨rfl, hb⟩
end Go.Proofs.Ytkfggilildiflab

namespace Go.Proofs.Ytkfggilildiflab
open Go.ChangeShapes Go.WideShapes Go.ChangeAt Go.RowKit

def byPart (v f : List UInt8) : Nat → List UInt8
  | 0 => zs 4
  | n + 1 => (byPart v f n).set (n / 4) ((byPart v f n).getD (n / 4) 0 ^^^ mulB (v.getD (n % 4) 0) (f.getD ((n % 4 + 4 - n / 4) % 4) 0))
theorem byPart_len (v f : List UInt8) (n : Nat) : (byPart v f n).length = 4 := by
  induction n with
  | zero => exact zs_len 4
  | succ n ih => simp [byPart, ih]
theorem byPart_zero (v f : List UInt8) : byPart v f 0 = zs 4 := rfl
theorem byPart_succ (v f : List UInt8) (k i : Nat) (hi : i < 4) : byPart v f (4 * k + (i + 1)) = (byPart v f (4 * k + i)).set k ((byPart v f (4 * k + i)).getD k 0 ^^^ mulB (v.getD i 0) (f.getD ((i + 4 - k) % 4) 0)) := by
  have e1 : (4 * k + i) / 4 = k := by omega
  have e2 : (4 * k + i) % 4 = i := by omega
  show byPart v f ((4 * k + i) + 1) = _
  simp only [byPart, e1, e2]
theorem by_is (a b c d f0 f1 f2 f3 : UInt8) : byPart [a, b, c, d] [f0, f1, f2, f3] 16 =
    [mulB a f0 ^^^ mulB b f1 ^^^ mulB c f2 ^^^ mulB d f3, mulB a f3 ^^^ mulB b f0 ^^^ mulB c f1 ^^^ mulB d f2, mulB a f2 ^^^ mulB b f3 ^^^ mulB c f0 ^^^ mulB d f1, mulB a f1 ^^^ mulB b f2 ^^^ mulB c f3 ^^^ mulB d f0] := by
  generalize hm : mulB = m
  simp only [byPart, hm, zs4_is, List.set_cons_zero, List.set_cons_succ, List.getD_cons_zero, List.getD_cons_succ, Nat.reduceMod, Nat.reduceDiv, Nat.reduceAdd, Nat.reduceSub, UInt8.zero_xor]
attribute [irreducible] byPart

set_option maxRecDepth 100000 in
set_option maxHeartbeats 1000000 in
theorem by_any (v f : List UInt8) (hv : v.length = 4) (hf : f.length = 4) (w : World) :
    Calls Try.prog 129 #[.agg (bvs v), .agg (bvs f)] w fun e w' => e = .returned (.agg (bvs (byPart v f 16))) ∧ Below w.heap.size w w' := by
  have H := hid hv; have F := hid hf; clear hv hf
  have s0 : csz (bvs v) = 4 := by rw [csz_bvs, H.out]
  have z4 := zs4
  go_enter Try.func129, Try.ntmps129
  go_wp2_with fail
  go_loopw [6, 7, 8, 9, 13] (fun u6 u7 u8 u9 u13 wr => ∃ k : Nat, k ≤ 4 ∧ u9 = .int .i64 k ∧ St w wr [(w.heap.size + 1 + 1 + 1, bvs (byPart v f (4 * k)), 164), (w.heap.size + 1 + 1, bvs (zs 4), 164), (w.heap.size + 1, bvs f, 164), (w.heap.size, bvs v, 164)])
    (fun _ _ _ i _ _ => 4 - (intOf i).toNat)
  case atStart => exact ⟨0, by omega, rfl, by rw [byPart_zero]; exact (St.alloc' (St.alloc' (St.alloc' (St.alloc' (St.start w) (by first | rfl | simp)) (by first | rfl | simp)) (by first | rfl | simp)) (by first | rfl | simp))⟩
  case round =>
    obtain ⟨k, hk, rfl, hS⟩ := hrel
    by_cases hlt : k < 4
    · obtain ⟨kb3, kc3, kf3, kl3, kn3⟩ := hS.at 3 rfl
      go_wp2_with fail
      clear kb3 kc3 kf3 kl3 kn3
      go_loopw [7, 8, 13] (fun u7 u8 u13 wr => ∃ i : Nat, i ≤ 4 ∧ u13 = .int .i64 i ∧ St w wr [(w.heap.size + 1 + 1 + 1, bvs (byPart v f (4 * k + i)), 164), (w.heap.size + 1 + 1, bvs (zs 4), 164), (w.heap.size + 1, bvs f, 164), (w.heap.size, bvs v, 164)])
        (fun _ _ i _ => 4 - (intOf i).toNat)
      case atStart => exact ⟨0, by omega, rfl, hS⟩
      case round =>
        clear hS
        obtain ⟨i, hi, rfl, hS⟩ := hrel
        by_cases hlt2 : i < 4
        · have hx := bvs_get (l := v) (k := i) (by rw [H.out]; omega)
          obtain ⟨j, hj, hj4, hjn⟩ : ∃ j : Nat, ((i : Int) - (k : Int)) % 4 = (j : Int) ∧ j < 4 ∧ (i + 4 - k) % 4 = j := ⟨(i + 4 - k) % 4, by omega, by omega, rfl⟩
          have hjn := hid hjn
          have hj5 : (j : Int) < 4 := by omega
          have hy := bvs_get (l := f) (k := j) (by rw [F.out]; omega)
          have ho := bvs_get (l := byPart v f (4 * k + i)) (k := k) (by rw [byPart_len]; omega)
          generalize hX : v.getD i 0 = x at hx
          generalize hY : f.getD j 0 = y at hy
          generalize hO : (byPart v f (4 * k + i)).getD k 0 = o at ho
          have HX := hid hX; have HY := hid hY; have HO := hid hO; clear hX hY hO
          go_wp2_with fail
          refine region_tail_lit (by kernel_rfl) (by kernel_rfl) ?_
          dsimp only [List.dropLast, List.getLast?, List.getLast, Option.getD]
          repeat (first | (refine BigFrame.wpQuiet_skip rfl ?_; simp only [Act.put, List.setIfInBounds_toArray, List.set_cons_zero, List.set_cons_succ]) | (refine BigFrame.wpQuiet_want rfl (fun K hK => ?_); apply Exists.intro; refine ⟨fun w' hw' => ?_, hK _ ?_⟩; (focus (have zS := hS.cls hw'; obtain ⟨zb0, zc0, zf0, zl0, zn0⟩ := zS.at 0 rfl; obtain ⟨zb1, zc1, zf1, zl1, zn1⟩ := zS.at 2 rfl; clear zS; go_simp; (try (go_bits; go_simp)); first | done | rfl | ((go_at_call 145; exact (mul_any x y _).mono (fun e w' ⟨he, hw⟩ => ⟨he, hw ▸ hw'⟩))))); clear hK K; simp only [Act.put, List.setIfInBounds_toArray, List.set_cons_zero, List.set_cons_succ]))
          refine wpQuiet_nil ?_
          intro w2 hc
          have hS2 := hS.cls hc
          clear hS hc
          obtain ⟨kb0, kc0, kf0, kl0, kn0⟩ := hS2.at 0 rfl
          go_wp2
          go_roundw
          case rel =>
            refine ⟨i + 1, by omega, by go_num, ?_⟩
            have h3 := hS2.setCell 0 rfl k (.int .u8 (bits .xor .u8 (o.toNat : Int) ((mulB x y).toNat : Int)))
            rw [xor_u8, bvs_set, show (byPart v f (4 * k + i)).set k (o ^^^ mulB x y) = byPart v f (4 * k + (i + 1)) by rw [byPart_succ v f k i hlt2, HX.out, hjn.out, HY.out, HO.out]] at h3
            rw [xor_u8]
            exact h3
          case measure => simp [intOf]; omega
        · obtain rfl : i = 4 := by omega
          clear hi hlt2
          go_wp2
          go_roundw
          case rel => exact ⟨k + 1, by omega, by go_num, by rw [show 4 * (k + 1) = 4 * k + 4 by omega]; exact hS⟩
          case measure => simp [intOf]; omega
    · obtain rfl : k = 4 := by omega
      have hs : csz (bvs (byPart v f 16)) = 4 := by rw [csz_bvs, byPart_len]
      clear hk hlt
      have hS : St w wr [(w.heap.size + 1 + 1 + 1, bvs (byPart v f 16), 164), (w.heap.size + 1 + 1, bvs (zs 4), 164), (w.heap.size + 1, bvs f, 164), (w.heap.size, bvs v, 164)] := hS
      obtain ⟨kb0, kc0, kf0, kl0, kn0⟩ := hS.at 0 rfl; obtain ⟨kb1, kc1, kf1, kl1, kn1⟩ := hS.at 1 rfl
      go_wp2
      have h3 := hS.setRow 1 rfl (bvs (byPart v f 16))
      refine post_cell (n := 4) Try.results129 (by kernel_rfl) (.inl rfl) _ _ _ _ rfl rfl (h3.blk 1 rfl) hs ⟨rfl, h3.below⟩

theorem mix_lit : #[Value.int .u8 2, .int .u8 3, .int .u8 1, .int .u8 1] = bvs [2, 3, 1, 1] := rfl
theorem unmix_lit : #[Value.int .u8 14, .int .u8 11, .int .u8 13, .int .u8 9] = bvs [14, 11, 13, 9] := rfl

set_option maxRecDepth 100000 in
set_option maxHeartbeats 400000 in
theorem mix_any (v : List UInt8) (hv : v.length = 4) (w : World) :
    Calls Try.prog 103 #[.agg (bvs v)] w fun e w' => e = .returned (.agg (bvs (byPart v [2, 3, 1, 1] 16))) ∧ Below w.heap.size w w' := by
  have H := hid hv; clear hv
  have s0 : csz (bvs v) = 4 := by rw [csz_bvs, H.out]
  have hs : csz (bvs (byPart v [2, 3, 1, 1] 16)) = 4 := by rw [csz_bvs, byPart_len]
  have m1 := mix_lit
  go_enter Try.func103, Try.ntmps103
  go_wp2_with fail
  have hS : St w ((w.alloc (.cells (bvs v) 164)).alloc (.cells #[.int .u8 0, .int .u8 0, .int .u8 0, .int .u8 0] 164)) [(w.heap.size + 1, #[.int .u8 0, .int .u8 0, .int .u8 0, .int .u8 0], 164), (w.heap.size, bvs v, 164)] := (St.alloc' (St.alloc' (St.start w) (by first | rfl | simp)) (by first | rfl | simp))
  refine (by_any v [2, 3, 1, 1] H.out rfl _).mono ?_
  rintro e w1 ⟨rfl, hb⟩
  have hS1 := hS.call hb
  clear hS hb
  obtain ⟨kb0, kc0, kf0, kl0, kn0⟩ := hS1.at 0 rfl
  go_wp2
  have h3 := hS1.setRow 0 rfl (bvs (byPart v [2, 3, 1, 1] 16))
  exact post_cell (n := 4) Try.results103 (by kernel_rfl) (.inl rfl) _ _ _ _ rfl rfl (h3.blk 0 rfl) hs ⟨rfl, h3.below⟩

set_option maxRecDepth 100000 in
set_option maxHeartbeats 400000 in
theorem unmix_any (v : List UInt8) (hv : v.length = 4) (w : World) :
    Calls Try.prog 109 #[.agg (bvs v)] w fun e w' => e = .returned (.agg (bvs (byPart v [14, 11, 13, 9] 16))) ∧ Below w.heap.size w w' := by
  have H := hid hv; clear hv
  have s0 : csz (bvs v) = 4 := by rw [csz_bvs, H.out]
  have hs : csz (bvs (byPart v [14, 11, 13, 9] 16)) = 4 := by rw [csz_bvs, byPart_len]
  have m1 := unmix_lit
  go_enter Try.func109, Try.ntmps109
  go_wp2_with fail
  have hS : St w ((w.alloc (.cells (bvs v) 164)).alloc (.cells #[.int .u8 0, .int .u8 0, .int .u8 0, .int .u8 0] 164)) [(w.heap.size + 1, #[.int .u8 0, .int .u8 0, .int .u8 0, .int .u8 0], 164), (w.heap.size, bvs v, 164)] := (St.alloc' (St.alloc' (St.start w) (by first | rfl | simp)) (by first | rfl | simp))
  refine (by_any v [14, 11, 13, 9] H.out rfl _).mono ?_
  rintro e w1 ⟨rfl, hb⟩
  have hS1 := hS.call hb
  clear hS hb
  obtain ⟨kb0, kc0, kf0, kl0, kn0⟩ := hS1.at 0 rfl
  go_wp2
  have h3 := hS1.setRow 0 rfl (bvs (byPart v [14, 11, 13, 9] 16))
  exact post_cell (n := 4) Try.results109 (by kernel_rfl) (.inl rfl) _ _ _ _ rfl rfl (h3.blk 0 rfl) hs ⟨rfl, h3.below⟩
end Go.Proofs.Ytkfggilildiflab

namespace Go.Proofs.Ytkfggilildiflab
open Go.ChangeShapes Go.WideShapes Go.ChangeAt Go.RowKit

theorem refmul2_any (a : UInt8) (w : World) : Calls Try.prog 133 #[.int .u8 a.toNat, .int .u8 2] w fun e w' => e = .returned (.int .u8 (mulB a 2).toNat) ∧ Below w.heap.size w w' := by
  rw [← refMul_2]; exact refmul_any a 2 w
theorem refmul3_any (a : UInt8) (w : World) : Calls Try.prog 133 #[.int .u8 a.toNat, .int .u8 3] w fun e w' => e = .returned (.int .u8 (mulB a 3).toNat) ∧ Below w.heap.size w w' := by
  rw [← refMul_3]; exact refmul_any a 3 w

def refMix (v : List UInt8) : List UInt8 :=
  [mulB (v.getD 0 0) 2 ^^^ mulB (v.getD 1 0) 3 ^^^ v.getD 2 0 ^^^ v.getD 3 0, v.getD 0 0 ^^^ mulB (v.getD 1 0) 2 ^^^ mulB (v.getD 2 0) 3 ^^^ v.getD 3 0,
   v.getD 0 0 ^^^ v.getD 1 0 ^^^ mulB (v.getD 2 0) 2 ^^^ mulB (v.getD 3 0) 3, mulB (v.getD 0 0) 3 ^^^ v.getD 1 0 ^^^ v.getD 2 0 ^^^ mulB (v.getD 3 0) 2]

set_option maxRecDepth 100000 in
set_option maxHeartbeats 2000000 in
theorem refMix_any (v : List UInt8) (hv : v.length = 4) (w : World) :
    Calls Try.prog 108 #[.agg (bvs v)] w fun e w' => e = .returned (.agg (bvs (refMix v))) ∧ Below w.heap.size w w' := by
  obtain ⟨x0, x1, x2, x3, rfl⟩ := len4 hv
  clear hv
  have s0 : csz (bvs [x0, x1, x2, x3]) = 4 := rfl
  have h0 : (bvs [x0, x1, x2, x3])[0]? = some (.int .u8 (x0.toNat : Int)) := rfl
  have h1 : (bvs [x0, x1, x2, x3])[1]? = some (.int .u8 (x1.toNat : Int)) := rfl
  have h2 : (bvs [x0, x1, x2, x3])[2]? = some (.int .u8 (x2.toNat : Int)) := rfl
  have h3 : (bvs [x0, x1, x2, x3])[3]? = some (.int .u8 (x3.toNat : Int)) := rfl
  go_enter Try.func108, Try.ntmps108
  go_wp2_with fail
  have hS : St w ((w.alloc (.cells (bvs [x0, x1, x2, x3]) 164)).alloc (.cells #[.int .u8 0, .int .u8 0, .int .u8 0, .int .u8 0] 164)) [(w.heap.size + 1, #[.int .u8 0, .int .u8 0, .int .u8 0, .int .u8 0], 164), (w.heap.size, bvs [x0, x1, x2, x3], 164)] := (St.alloc' (St.alloc' (St.start w) (by first | rfl | simp)) (by first | rfl | simp))
  generalize (w.alloc (.cells (bvs [x0, x1, x2, x3]) 164)).alloc (.cells #[.int .u8 0, .int .u8 0, .int .u8 0, .int .u8 0] 164) = W at *
  refine region_tail_lit (by kernel_rfl) (by kernel_rfl) ?_
  dsimp only [List.dropLast, List.getLast?, List.getLast, Option.getD]
  repeat (first | (refine BigFrame.wpQuiet_skip rfl ?_; simp only [Act.put, List.setIfInBounds_toArray, List.set_cons_zero, List.set_cons_succ]) | (refine BigFrame.wpQuiet_want rfl (fun K hK => ?_); apply Exists.intro; refine ⟨fun w' hw' => ?_, hK _ ?_⟩; (focus (have zS := hS.cls hw'; obtain ⟨zb0, zc0, zf0, zl0, zn0⟩ := zS.at 1 rfl; clear zS; go_simp; (try (go_bits; go_simp)); first | done | rfl | ((go_at_call 133; first | ((with_reducible refine (refmul2_any _ _).mono ?_); exact fun e w' ⟨he, hw⟩ => ⟨he, hw'.step hw⟩) | ((with_reducible refine (refmul3_any _ _).mono ?_); exact fun e w' ⟨he, hw⟩ => ⟨he, hw'.step hw⟩))))); clear hK K; simp only [Act.put, List.setIfInBounds_toArray, List.set_cons_zero, List.set_cons_succ]))
  refine wpQuiet_nil ?_
  intro w2 hc
  have hS2 := hS.cls hc
  clear hS hc
  obtain ⟨kb0, kc0, kf0, kl0, kn0⟩ := hS2.at 0 rfl
  go_wp2
  exact post_cell (n := 4) Try.results108 (by kernel_rfl) (.inl rfl) _ _ _ _ rfl rfl (blk_setRow_same (hS2.blk 0 rfl) _) rfl ⟨by simp only [xor_u8]; rfl, (hS2.setRow 0 rfl _).below⟩
end Go.Proofs.Ytkfggilildiflab

namespace Go.Proofs.Ytkfggilildiflab
open Go.ChangeShapes Go.WideShapes Go.ChangeAt Go.RowKit

theorem one_bit : ∀ n : Fin 256, (UInt8.ofNat n) >>> 7 = 0 ∨ (UInt8.ofNat n) >>> 7 = 1 := by decide +kernel
theorem top_bit (b : UInt8) : b >>> 7 = 0 ∨ b >>> 7 = 1 := by simpa using one_bit ⟨b.toNat, b.toNat_lt⟩
theorem low_bit' : ∀ n : Fin 256, (UInt8.ofNat n) &&& 1 = 0 ∨ (UInt8.ofNat n) &&& 1 = 1 := by decide +kernel
theorem low_bit (b : UInt8) : b &&& 1 = 0 ∨ b &&& 1 = 1 := by simpa using low_bit' ⟨b.toNat, b.toNat_lt⟩
theorem x4 (a b c d : UInt8) : (a ^^^ b) ^^^ (c ^^^ d) = (a ^^^ c) ^^^ (b ^^^ d) := by
  rw [UInt8.xor_assoc, UInt8.xor_assoc, ← UInt8.xor_assoc b c d, UInt8.xor_comm b c, UInt8.xor_assoc c b d]
theorem twice_xor (a b : UInt8) : twiceB (a ^^^ b) = twiceB a ^^^ twiceB b := by
  unfold twiceB
  rw [UInt8.shiftLeft_xor, UInt8.shiftRight_xor, x4]
  congr 1
  rcases top_bit a with h | h <;> rcases top_bit b with h' | h' <;> rw [h, h'] <;> rfl
theorem mulGo_xor (n : Nat) : ∀ (a a' b o o' : UInt8), mulGo n (a ^^^ a') b (o ^^^ o') = mulGo n a b o ^^^ mulGo n a' b o' := by
  induction n with
  | zero => intros; rfl
  | succ n ih =>
    intro a a' b o o'
    simp only [mulGo]
    split
    · rfl
    · rw [← ih, twice_xor]
      congr 1
      rw [x4]
      congr 1
      rcases low_bit b with h | h <;> rw [h] <;> simp
theorem mul_xor (a a' b : UInt8) : mulB (a ^^^ a') b = mulB a b ^^^ mulB a' b := by
  have := mulGo_xor 8 a a' b 0 0
  simpa [mulB] using this
theorem mul_zero_left (b : UInt8) : mulB 0 b = 0 := by
  have := mul_xor 0 0 b
  simpa using this

theorem mul1' : ∀ n : Fin 256, mulB (UInt8.ofNat n) 1 = UInt8.ofNat n := by decide +kernel
theorem mul_one (x : UInt8) : mulB x 1 = x := by simpa using mul1' ⟨x.toNat, x.toNat_lt⟩
theorem mix_law {v : List UInt8} (h : v.length = 4) : byPart v [2, 3, 1, 1] 16 = refMix v := by
  obtain ⟨a, b, c, d, rfl⟩ := len4 h
  rw [by_is]
  simp only [mul_one, refMix, List.getD_cons_zero, List.getD_cons_succ]

/-- What a byte comes to through two products with four factors. -/
def via (x f0 f1 f2 f3 g0 g1 g2 g3 : UInt8) : UInt8 := mulB (mulB x f0) g0 ^^^ mulB (mulB x f1) g1 ^^^ mulB (mulB x f2) g2 ^^^ mulB (mulB x f3) g3
theorem by_by (a b c d f0 f1 f2 f3 g0 g1 g2 g3 : UInt8) : byPart (byPart [a, b, c, d] [f0, f1, f2, f3] 16) [g0, g1, g2, g3] 16 =
    [via a f0 f3 f2 f1 g0 g1 g2 g3 ^^^ via b f1 f0 f3 f2 g0 g1 g2 g3 ^^^ via c f2 f1 f0 f3 g0 g1 g2 g3 ^^^ via d f3 f2 f1 f0 g0 g1 g2 g3,
     via a f0 f3 f2 f1 g3 g0 g1 g2 ^^^ via b f1 f0 f3 f2 g3 g0 g1 g2 ^^^ via c f2 f1 f0 f3 g3 g0 g1 g2 ^^^ via d f3 f2 f1 f0 g3 g0 g1 g2,
     via a f0 f3 f2 f1 g2 g3 g0 g1 ^^^ via b f1 f0 f3 f2 g2 g3 g0 g1 ^^^ via c f2 f1 f0 f3 g2 g3 g0 g1 ^^^ via d f3 f2 f1 f0 g2 g3 g0 g1,
     via a f0 f3 f2 f1 g1 g2 g3 g0 ^^^ via b f1 f0 f3 f2 g1 g2 g3 g0 ^^^ via c f2 f1 f0 f3 g1 g2 g3 g0 ^^^ via d f3 f2 f1 f0 g1 g2 g3 g0] := by
  have r (p q r s p' q' r' s' p2 q2 r2 s2 p3 q3 r3 s3 : UInt8) : (p ^^^ q ^^^ r ^^^ s) ^^^ (p' ^^^ q' ^^^ r' ^^^ s') ^^^ (p2 ^^^ q2 ^^^ r2 ^^^ s2) ^^^ (p3 ^^^ q3 ^^^ r3 ^^^ s3) =
      (p ^^^ p' ^^^ p2 ^^^ p3) ^^^ (q ^^^ q' ^^^ q2 ^^^ q3) ^^^ (r ^^^ r' ^^^ r2 ^^^ r3) ^^^ (s ^^^ s' ^^^ s2 ^^^ s3) := by ac_rfl
  rw [by_is, by_is]
  simp only [mul_xor, r, via]
theorem vm00' : ∀ n : Fin 256, via (UInt8.ofNat n) 2 1 1 3 14 11 13 9 = UInt8.ofNat n := by decide +kernel
theorem vm00 (x : UInt8) : via x 2 1 1 3 14 11 13 9 = x := by simpa using vm00' ⟨x.toNat, x.toNat_lt⟩
theorem vm01' : ∀ n : Fin 256, via (UInt8.ofNat n) 3 2 1 1 14 11 13 9 = 0 := by decide +kernel
theorem vm01 (x : UInt8) : via x 3 2 1 1 14 11 13 9 = 0 := by simpa using vm01' ⟨x.toNat, x.toNat_lt⟩
theorem vm02' : ∀ n : Fin 256, via (UInt8.ofNat n) 1 3 2 1 14 11 13 9 = 0 := by decide +kernel
theorem vm02 (x : UInt8) : via x 1 3 2 1 14 11 13 9 = 0 := by simpa using vm02' ⟨x.toNat, x.toNat_lt⟩
theorem vm03' : ∀ n : Fin 256, via (UInt8.ofNat n) 1 1 3 2 14 11 13 9 = 0 := by decide +kernel
theorem vm03 (x : UInt8) : via x 1 1 3 2 14 11 13 9 = 0 := by simpa using vm03' ⟨x.toNat, x.toNat_lt⟩
theorem vm10' : ∀ n : Fin 256, via (UInt8.ofNat n) 2 1 1 3 9 14 11 13 = 0 := by decide +kernel
theorem vm10 (x : UInt8) : via x 2 1 1 3 9 14 11 13 = 0 := by simpa using vm10' ⟨x.toNat, x.toNat_lt⟩
theorem vm11' : ∀ n : Fin 256, via (UInt8.ofNat n) 3 2 1 1 9 14 11 13 = UInt8.ofNat n := by decide +kernel
theorem vm11 (x : UInt8) : via x 3 2 1 1 9 14 11 13 = x := by simpa using vm11' ⟨x.toNat, x.toNat_lt⟩
theorem vm12' : ∀ n : Fin 256, via (UInt8.ofNat n) 1 3 2 1 9 14 11 13 = 0 := by decide +kernel
theorem vm12 (x : UInt8) : via x 1 3 2 1 9 14 11 13 = 0 := by simpa using vm12' ⟨x.toNat, x.toNat_lt⟩
theorem vm13' : ∀ n : Fin 256, via (UInt8.ofNat n) 1 1 3 2 9 14 11 13 = 0 := by decide +kernel
theorem vm13 (x : UInt8) : via x 1 1 3 2 9 14 11 13 = 0 := by simpa using vm13' ⟨x.toNat, x.toNat_lt⟩
theorem vm20' : ∀ n : Fin 256, via (UInt8.ofNat n) 2 1 1 3 13 9 14 11 = 0 := by decide +kernel
theorem vm20 (x : UInt8) : via x 2 1 1 3 13 9 14 11 = 0 := by simpa using vm20' ⟨x.toNat, x.toNat_lt⟩
theorem vm21' : ∀ n : Fin 256, via (UInt8.ofNat n) 3 2 1 1 13 9 14 11 = 0 := by decide +kernel
theorem vm21 (x : UInt8) : via x 3 2 1 1 13 9 14 11 = 0 := by simpa using vm21' ⟨x.toNat, x.toNat_lt⟩
theorem vm22' : ∀ n : Fin 256, via (UInt8.ofNat n) 1 3 2 1 13 9 14 11 = UInt8.ofNat n := by decide +kernel
theorem vm22 (x : UInt8) : via x 1 3 2 1 13 9 14 11 = x := by simpa using vm22' ⟨x.toNat, x.toNat_lt⟩
theorem vm23' : ∀ n : Fin 256, via (UInt8.ofNat n) 1 1 3 2 13 9 14 11 = 0 := by decide +kernel
theorem vm23 (x : UInt8) : via x 1 1 3 2 13 9 14 11 = 0 := by simpa using vm23' ⟨x.toNat, x.toNat_lt⟩
theorem vm30' : ∀ n : Fin 256, via (UInt8.ofNat n) 2 1 1 3 11 13 9 14 = 0 := by decide +kernel
theorem vm30 (x : UInt8) : via x 2 1 1 3 11 13 9 14 = 0 := by simpa using vm30' ⟨x.toNat, x.toNat_lt⟩
theorem vm31' : ∀ n : Fin 256, via (UInt8.ofNat n) 3 2 1 1 11 13 9 14 = 0 := by decide +kernel
theorem vm31 (x : UInt8) : via x 3 2 1 1 11 13 9 14 = 0 := by simpa using vm31' ⟨x.toNat, x.toNat_lt⟩
theorem vm32' : ∀ n : Fin 256, via (UInt8.ofNat n) 1 3 2 1 11 13 9 14 = 0 := by decide +kernel
theorem vm32 (x : UInt8) : via x 1 3 2 1 11 13 9 14 = 0 := by simpa using vm32' ⟨x.toNat, x.toNat_lt⟩
theorem vm33' : ∀ n : Fin 256, via (UInt8.ofNat n) 1 1 3 2 11 13 9 14 = UInt8.ofNat n := by decide +kernel
theorem vm33 (x : UInt8) : via x 1 1 3 2 11 13 9 14 = x := by simpa using vm33' ⟨x.toNat, x.toNat_lt⟩
theorem unmix_mix {v : List UInt8} (h : v.length = 4) : byPart (byPart v [2, 3, 1, 1] 16) [14, 11, 13, 9] 16 = v := by
  obtain ⟨a, b, c, d, rfl⟩ := len4 h
  rw [by_by]
  simp only [vm00, vm01, vm02, vm03, vm10, vm11, vm12, vm13, vm20, vm21, vm22, vm23, vm30, vm31, vm32, vm33, UInt8.xor_zero, UInt8.zero_xor]
theorem vu00' : ∀ n : Fin 256, via (UInt8.ofNat n) 14 9 13 11 2 3 1 1 = UInt8.ofNat n := by decide +kernel
theorem vu00 (x : UInt8) : via x 14 9 13 11 2 3 1 1 = x := by simpa using vu00' ⟨x.toNat, x.toNat_lt⟩
theorem vu01' : ∀ n : Fin 256, via (UInt8.ofNat n) 11 14 9 13 2 3 1 1 = 0 := by decide +kernel
theorem vu01 (x : UInt8) : via x 11 14 9 13 2 3 1 1 = 0 := by simpa using vu01' ⟨x.toNat, x.toNat_lt⟩
theorem vu02' : ∀ n : Fin 256, via (UInt8.ofNat n) 13 11 14 9 2 3 1 1 = 0 := by decide +kernel
theorem vu02 (x : UInt8) : via x 13 11 14 9 2 3 1 1 = 0 := by simpa using vu02' ⟨x.toNat, x.toNat_lt⟩
theorem vu03' : ∀ n : Fin 256, via (UInt8.ofNat n) 9 13 11 14 2 3 1 1 = 0 := by decide +kernel
theorem vu03 (x : UInt8) : via x 9 13 11 14 2 3 1 1 = 0 := by simpa using vu03' ⟨x.toNat, x.toNat_lt⟩
theorem vu10' : ∀ n : Fin 256, via (UInt8.ofNat n) 14 9 13 11 1 2 3 1 = 0 := by decide +kernel
theorem vu10 (x : UInt8) : via x 14 9 13 11 1 2 3 1 = 0 := by simpa using vu10' ⟨x.toNat, x.toNat_lt⟩
theorem vu11' : ∀ n : Fin 256, via (UInt8.ofNat n) 11 14 9 13 1 2 3 1 = UInt8.ofNat n := by decide +kernel
theorem vu11 (x : UInt8) : via x 11 14 9 13 1 2 3 1 = x := by simpa using vu11' ⟨x.toNat, x.toNat_lt⟩
theorem vu12' : ∀ n : Fin 256, via (UInt8.ofNat n) 13 11 14 9 1 2 3 1 = 0 := by decide +kernel
theorem vu12 (x : UInt8) : via x 13 11 14 9 1 2 3 1 = 0 := by simpa using vu12' ⟨x.toNat, x.toNat_lt⟩
theorem vu13' : ∀ n : Fin 256, via (UInt8.ofNat n) 9 13 11 14 1 2 3 1 = 0 := by decide +kernel
theorem vu13 (x : UInt8) : via x 9 13 11 14 1 2 3 1 = 0 := by simpa using vu13' ⟨x.toNat, x.toNat_lt⟩
theorem vu20' : ∀ n : Fin 256, via (UInt8.ofNat n) 14 9 13 11 1 1 2 3 = 0 := by decide +kernel
theorem vu20 (x : UInt8) : via x 14 9 13 11 1 1 2 3 = 0 := by simpa using vu20' ⟨x.toNat, x.toNat_lt⟩
theorem vu21' : ∀ n : Fin 256, via (UInt8.ofNat n) 11 14 9 13 1 1 2 3 = 0 := by decide +kernel
theorem vu21 (x : UInt8) : via x 11 14 9 13 1 1 2 3 = 0 := by simpa using vu21' ⟨x.toNat, x.toNat_lt⟩
theorem vu22' : ∀ n : Fin 256, via (UInt8.ofNat n) 13 11 14 9 1 1 2 3 = UInt8.ofNat n := by decide +kernel
theorem vu22 (x : UInt8) : via x 13 11 14 9 1 1 2 3 = x := by simpa using vu22' ⟨x.toNat, x.toNat_lt⟩
theorem vu23' : ∀ n : Fin 256, via (UInt8.ofNat n) 9 13 11 14 1 1 2 3 = 0 := by decide +kernel
theorem vu23 (x : UInt8) : via x 9 13 11 14 1 1 2 3 = 0 := by simpa using vu23' ⟨x.toNat, x.toNat_lt⟩
theorem vu30' : ∀ n : Fin 256, via (UInt8.ofNat n) 14 9 13 11 3 1 1 2 = 0 := by decide +kernel
theorem vu30 (x : UInt8) : via x 14 9 13 11 3 1 1 2 = 0 := by simpa using vu30' ⟨x.toNat, x.toNat_lt⟩
theorem vu31' : ∀ n : Fin 256, via (UInt8.ofNat n) 11 14 9 13 3 1 1 2 = 0 := by decide +kernel
theorem vu31 (x : UInt8) : via x 11 14 9 13 3 1 1 2 = 0 := by simpa using vu31' ⟨x.toNat, x.toNat_lt⟩
theorem vu32' : ∀ n : Fin 256, via (UInt8.ofNat n) 13 11 14 9 3 1 1 2 = 0 := by decide +kernel
theorem vu32 (x : UInt8) : via x 13 11 14 9 3 1 1 2 = 0 := by simpa using vu32' ⟨x.toNat, x.toNat_lt⟩
theorem vu33' : ∀ n : Fin 256, via (UInt8.ofNat n) 9 13 11 14 3 1 1 2 = UInt8.ofNat n := by decide +kernel
theorem vu33 (x : UInt8) : via x 9 13 11 14 3 1 1 2 = x := by simpa using vu33' ⟨x.toNat, x.toNat_lt⟩
theorem mix_unmix {v : List UInt8} (h : v.length = 4) : byPart (byPart v [14, 11, 13, 9] 16) [2, 3, 1, 1] 16 = v := by
  obtain ⟨a, b, c, d, rfl⟩ := len4 h
  rw [by_by]
  simp only [vu00, vu01, vu02, vu03, vu10, vu11, vu12, vu13, vu20, vu21, vu22, vu23, vu30, vu31, vu32, vu33, UInt8.xor_zero, UInt8.zero_xor]
theorem mix_example : byPart [0xdb, 0x13, 0x53, 0x45] [2, 3, 1, 1] 16 = [0x8e, 0x4d, 0xa1, 0xbc] := by rw [by_is]; decide +kernel
/-- A sum of lists. -/
def xorL (a b : List UInt8) : List UInt8 := List.zipWith (· ^^^ ·) a b
theorem by_xor {v w f : List UInt8} (hv : v.length = 4) (hw : w.length = 4) (hf : f.length = 4) : byPart (xorL v w) f 16 = xorL (byPart v f 16) (byPart w f 16) := by
  obtain ⟨a, b, c, d, rfl⟩ := len4 hv
  obtain ⟨a', b', c', d', rfl⟩ := len4 hw
  obtain ⟨f0, f1, f2, f3, rfl⟩ := len4 hf
  have r (p q r s p' q' r' s' : UInt8) : (p ^^^ p') ^^^ (q ^^^ q') ^^^ (r ^^^ r') ^^^ (s ^^^ s') = (p ^^^ q ^^^ r ^^^ s) ^^^ (p' ^^^ q' ^^^ r' ^^^ s') := by ac_rfl
  simp only [xorL, List.zipWith_cons_cons, List.zipWith_nil_right, by_is, mul_xor, r]
end Go.Proofs.Ytkfggilildiflab

namespace Go.Proofs.Ytkfggilildiflab
open Go.ChangeShapes Go.WideShapes Go.ChangeAt Go.RowKit
attribute [local go_sem] Oper.semAt_some

/-- The end of a function that holds one range over a function. -/
theorem postM {P : Program} {fn : Func} {R : Ending → World → Prop} {a : Act} {w : World} {e : Exit} {D : Nat} (he : e = .ret ∨ e = .normal) (hd : a.defers = [{ target := .collected D, args := #[] }]) (hk : w.heap[D]? = some (.deferred (some [])))
    (h : bodyPost P fn R .ret { a with defers := [] } (w.putObj D (.deferred none))) : bodyPostM Fence.wide 0 P fn R e a w := by
  obtain ⟨_, v, hr, hR⟩ := h
  have key : LeavesInM Fence.wide 0 P fn a.tmps R a.defers .returning w := by
    rw [hd]
    exact ⟨by simp, .inl ⟨D, _, rfl, run_takeDeferred hk, v, hr, hR⟩⟩
  rcases he with rfl | rfl
  · exact key
  · exact key
theorem postM0 {P : Program} {fn : Func} {R : Ending → World → Prop} {a : Act} {w : World} {e : Exit} (he : e = .ret ∨ e = .normal) (h : bodyPost P fn R e a w) : bodyPostM Fence.wide 0 P fn R e a w := by
  rcases he with rfl | rfl
  · obtain ⟨hd, v, hr, hR⟩ := h
    show LeavesInM Fence.wide 0 P fn a.tmps R a.defers .returning w
    rw [hd]
    exact ⟨v, hr, hR⟩
  · obtain ⟨hd, v, hr, hR⟩ := h
    show LeavesInM Fence.wide 0 P fn a.tmps R a.defers .returning w
    rw [hd]
    exact ⟨v, hr, hR⟩
theorem calls_of_marks {P : Program} {f : FuncId} {fn : Func} {c : Code} {args : Array Value} {w : World} {R : Ending → World → Prop} (hf : P.funcs[f]? = some fn) (hb : fn.body = some c)
    (h : c.wp P (bodyPostM Fence.wide 0 P fn R) { tmps := args ++ Array.replicate (fn.ntmps - args.size) undef, defers := [] } w) : Calls P f args w R :=
  (callsIn_wide (n := 0)).1 (callsIn_of_wp_marks hf hb trivial (wpIn_wide.2 h))

def powB (b : UInt8) : Nat → UInt8
  | 0 => 1
  | k + 1 => mulB (powB b k) b
theorem powB_succ (b : UInt8) (k : Nat) : powB b (k + 1) = mulB (powB b k) b := rfl
theorem powB_zero (b : UInt8) : powB b 0 = 1 := rfl
attribute [irreducible] powB

set_option maxRecDepth 100000 in
set_option maxHeartbeats 1000000 in
theorem powers_any (b : UInt8) (w : World) : Calls Try.prog 128 #[.int .u8 b.toNat] w fun e w' => e = .returned (.func (.func 144) #[] #[.pointer (some ⟨w.heap.size, 0, none⟩)]) ∧ w' = w.alloc (.cells #[.int .u8 b.toNat] 5) := by
  go_enter Try.func128, Try.ntmps128
  go_wp2
  go_ret
  exact ⟨rfl, rfl⟩

set_option maxRecDepth 100000 in
set_option maxHeartbeats 1000000 in
theorem powers1_iter (b : UInt8) (g : Nat) (W0 : World) (hg : blk W0 g = some (.cells #[.int .u8 b.toNat] 5 (0, 0))) :
    IterAt Try.prog 144 #[.pointer (some ⟨g, 0, none⟩)] (fun k => #[.int .u8 (powB b k).toNat]) none [g] W0 := by
  intro l J Jx M W L0 hbW hR hM hJ0 hH hY
  have hgW : blk W g = some (.cells #[.int .u8 b.toNat] 5 (0, 0)) := (hbW.block g (blk_lt hg)).trans hg
  have hgn : g ∉ L0.map (·.1) := hR g (List.mem_cons_self ..)
  have hM' := hid (hM rfl)
  have HY := hid hY
  clear hM hY hR hg hbW
  refine (callsIn_wide (n := 1)).1 ?_
  refine callsIn_of_wp Try.func144 rfl trivial ?_ rfl
  simp only [Try.ntmps144, List.size_toArray, List.length_cons, List.length_nil, Nat.reduceAdd, Nat.reduceSub, Array.replicate_succ, Array.replicate_zero, List.push_toArray, List.append_toArray, List.nil_append, List.cons_append]
  gi_wp2
  gi_loopg [3] M (fun n u3 wr => ∃ k L, n + k = M ∧ u3 = .int .u8 ((powB b k).toNat : Int) ∧ J k L ∧ Rd L0 W L wr)
  case atStart => exact ⟨0, L0, by omega, by rw [powB_zero]; rfl, hJ0, .refl hH⟩
  case round =>
    obtain ⟨k, L, hk, rfl, hJ, hRd⟩ := hrel
    obtain ⟨fn, tmps, assign, body, hy, hRo⟩ := HY.out k L wr hJ hRd (fun n h => by cases h)
    have HH := hid hRd; have HHJ := hid hJ
    clear hRd hJ
    gi_wp2
    refine hRo.mono ?_
    rintro e W3 ⟨L2, hRd2, (⟨rfl, hJ2⟩ | ⟨rfl, hx⟩)⟩
    · have hT := HH.out.trans hRd2
      have hm := hM'.out (k + 1) L2 hJ2
      obtain ⟨hb2, hc2, hl2⟩ := hT.farCells hgW hgn
      have HT := hid hT; have HJ := hid hJ2
      clear hT hRd2 hJ2 hRo hy HH HHJ
      gi_wp2_with fail
      refine (callsIn_wide.2 (mul_any (powB b k) b _)).mono ?_
      rintro e w' ⟨rfl, rfl⟩
      gi_wp2
      gi_roundg (gk - 1)
      case rel => exact ⟨k + 1, L2, by omega, by rw [powB_succ], HJ.out, HT.out⟩
      case measure => omega
    · have hT := HH.out.trans hRd2
      gi_wp2
      go_end0
      exact ⟨⟨_, rfl⟩, L2, hT, .inr hx⟩

theorem powers2_any (w : World) : Calls Try.prog 128 #[.int .u8 2] w fun e w' => e = .returned (.func (.func 144) #[] #[.pointer (some ⟨w.heap.size, 0, none⟩)]) ∧ w' = w.alloc (.cells #[.int .u8 2] 5) := powers_any 2 w
set_option maxRecDepth 100000 in
set_option maxHeartbeats 1000000 in
theorem constant_any (i : Nat) (h1 : 1 ≤ i) (h60 : i ≤ 60) (w : World) : Calls Try.prog 98 #[.int .i64 i] w fun e w' => e = .returned (.agg (bvs [powB 2 (i - 1), 0, 0, 0])) ∧ Below w.heap.size w w' := by
  have z := zs4
  have g1 : ¬ ((i : Int) < 1) := by omega
  have g2 : ¬ (60 < (i : Int)) := by omega
  refine calls_of_marks Try.func98 rfl ?_
  simp only [Try.ntmps98, List.size_toArray, List.length_cons, List.length_nil, Nat.reduceAdd, Nat.reduceSub, Array.replicate_succ, Array.replicate_zero, List.push_toArray, List.append_toArray, List.nil_append, List.cons_append]
  go_wp2_with fail
  with_reducible refine (powers2_any _).mono ?_
  rintro e w1 ⟨rfl, rfl⟩
  have hS : St w (((w.alloc (.cells #[.int .i64 i] 3)).alloc (.cells (bvs (zs 4)) 164)).alloc (.cells #[.int .i64 1] 3)) [(w.heap.size + 1 + 1, #[.int .i64 1], 3), (w.heap.size + 1, bvs (zs 4), 164), (w.heap.size, #[.int .i64 i], 3)] := (St.alloc' (St.alloc' (St.alloc' (St.start w) (by first | rfl | simp)) (by first | rfl | simp)) (by first | rfl | simp))
  have hS2 := hS.alloc' (n := w.heap.size + 1 + 1 + 1) (cs := #[.int .u8 2]) (t := 5) (by simp)
  clear hS
  go_wp2_with fail
  generalize (((w.alloc (.cells #[.int .i64 i] 3)).alloc (.cells (bvs (zs 4)) 164)).alloc (.cells #[.int .i64 1] 3)).alloc (.cells #[.int .u8 2] 5) = W at *
  have hnd := hS2.2.2
  have hit := powers1_iter 2 (w.heap.size + 1 + 1 + 1) W (hS2.blk 0 rfl)
  have hlt := blk_lt (hS2.blk 0 rfl)
  have hS3 := hS2.tail
  generalize w.heap.size + 1 + 1 + 1 = b3 at *
  generalize w.heap.size + 1 + 1 = b2 at *
  generalize w.heap.size + 1 = b1 at *
  refine wp_range (els := fun k => #[.int .u8 (powB 2 k).toNat]) (N := none) (R := [b3]) (gf := 144) (lb := #[.pointer (some ⟨b3, 0, none⟩)]) (by rfl) (by intro args w; kernel_rfl) hit (Below.refl _ _) (fun _ => rfl)
    (fun k L => k < i ∧ L = [(b2, #[.int .i64 ((k : Int) + 1)], 3), (b1, bvs (zs 4), 164), (w.heap.size, #[.int .i64 i], 3)])
    (fun c L => c = .ret ∧ ∃ x, L = [x, (b1, bvs [powB 2 (i - 1), 0, 0, 0], 164), (w.heap.size, #[.int .i64 i], 3)]) i (fun _ k L h => h.1)
    [(b2, #[.int .i64 1], 3), (b1, bvs (zs 4), 164), (w.heap.size, #[.int .i64 i], 3)] ⟨h1, rfl⟩ hS3.holds ?R ?act1 ?assign ?body ?done ?stop
  case R =>
    intro b hb
    obtain rfl := List.mem_singleton.1 hb
    simp only [List.map_cons, List.map_nil, List.nodup_cons] at hnd
    exact ⟨hlt, hnd.1⟩
  case assign =>
    intro l k W1 K hK
    gi_wp2
    exact hK
  case body =>
    rintro l k L W1 ⟨hk, rfl⟩ hIn _
    have hB := hIn.round
    clear hIn hnd hit hlt hS3 hS2
    generalize hp : powB 2 k = p
    have HP := hid hp; clear hp
    have hb : (bvs (zs 4)).setIfInBounds 0 (.int .u8 (p.toNat : Int)) = bvs [p, 0, 0, 0] := by rw [← zs4]; rfl
    have s0 : csz (bvs [p, 0, 0, 0]) = 4 := rfl
    have e0 : ¬ bvs (zs 4) = #[] := by rw [← zs4]; simp
    have f0 : (0 : Int) ≤ (k : Int) := by omega
    have f1 : (k : Int) < 60 := by omega
    obtain ⟨kb0, kc0, kf0, kl0, kn0⟩ := hB.at 0 rfl; obtain ⟨kb1, kc1, kf1, kl1, kn1⟩ := hB.at 1 rfl; obtain ⟨kb2, kc2, kf2, kl2, kn2⟩ := hB.at 2 rfl
    by_cases hki : k + 1 = i
    · have hki2 : ((k : Int) + 1 == (i : Int)) = true := by simp; omega
      have HK := hid hki; clear hki
      gi_wp2
      have h2 := hB.setRow 1 rfl (bvs [p, 0, 0, 0])
      simp only [List.set_cons_zero, List.set_cons_succ] at h2
      exact ⟨_, h2, rfl, _, by rw [show i - 1 = k by have := HK.out; omega, HP.out]⟩
    · have hki2 : ((k : Int) + 1 == (i : Int)) = false := by simp; omega
      gi_wp2
      have h2 := hB.setCell 0 rfl 0 (.int .i64 ((k : Int) + 1 + 1))
      simp only [List.set_cons_zero] at h2
      exact ⟨_, h2, by omega, rfl⟩
  case done => intro D n L W1 h; cases h
  case stop =>
    rintro D c L W1 ⟨rfl, x, rfl⟩ hIn hD hD0
    have hS4 := hS3.range hIn
    have h5 := hS4.shut hD (fun _ _ _ h => by cases h) (Nat.le_trans hS3.below.size hD0) (.deferred none)
    clear hS4 hIn hS3 hS2 hit hnd
    go_wp2
    refine postM (.inl rfl) rfl hD ?_
    exact post_cell (n := 4) Try.results98 (by kernel_rfl) (.inl rfl) _ _ _ _ rfl rfl (h5.blk 1 rfl) rfl ⟨rfl, h5.below⟩
end Go.Proofs.Ytkfggilildiflab

namespace Go.Proofs.Ytkfggilildiflab
open Go.ChangeShapes Go.WideShapes Go.ChangeAt Go.RowKit
/-- A round's constant's first byte. -/
def conB (i : Int) : UInt8 := if 1 ≤ i ∧ i ≤ 60 then powB 2 (i - 1).toNat else 0
theorem conB_in (i : Nat) (h1 : 1 ≤ i) (h60 : i ≤ 60) : conB i = powB 2 (i - 1) := by
  unfold conB; rw [if_pos (by omega)]; congr 1; omega
theorem conB_out (i : Int) (h : i < 1 ∨ 60 < i) : conB i = 0 := by unfold conB; rw [if_neg (by omega)]
theorem conB_9 : conB 9 = 27 := by
  rw [show (9 : Int) = ((9 : Nat) : Int) from rfl, conB_in 9 (by omega) (by omega)]
  simp only [powB_succ, powB_zero]
  decide +kernel
attribute [irreducible] conB

set_option maxRecDepth 100000 in
set_option maxHeartbeats 1000000 in
theorem constantOut_any (i : Int) (h : i < 1 ∨ 60 < i) (w : World) : Calls Try.prog 98 #[.int .i64 i] w fun e w' => e = .returned (.agg (bvs (zs 4))) ∧ Below w.heap.size w w' := by
  have z := zs4
  have s0 : csz (bvs (zs 4)) = 4 := csz_zs 4
  rcases h with h | h
  · refine calls_of_marks Try.func98 rfl ?_
    simp only [Try.ntmps98, List.size_toArray, List.length_cons, List.length_nil, Nat.reduceAdd, Nat.reduceSub, Array.replicate_succ, Array.replicate_zero, List.push_toArray, List.append_toArray, List.nil_append, List.cons_append]
    go_wp2
    refine postM0 (.inl rfl) ?_
    exact post_cell (n := 4) Try.results98 (by kernel_rfl) (.inl rfl) _ (bvs (zs 4)) 164 (0, 0) rfl rfl (by simp [go_sem]) s0 ⟨rfl, (by repeat (first | exact Below.refl _ _ | assumption | refine Below.alloc ?_ (by first | omega | (simp; done) | (simp; omega)) _ | refine Below.drew ?_ | refine Below.setCell ?_ (by first | omega | (simp; done) | (simp; omega)) _ | refine below_setRow' ?_ (by first | omega | (simp; done) | (simp; omega)) _ | refine below_drewN' ?_ _))⟩
  · have h2 : ¬ i < 1 := by omega
    refine calls_of_marks Try.func98 rfl ?_
    simp only [Try.ntmps98, List.size_toArray, List.length_cons, List.length_nil, Nat.reduceAdd, Nat.reduceSub, Array.replicate_succ, Array.replicate_zero, List.push_toArray, List.append_toArray, List.nil_append, List.cons_append]
    go_wp2
    refine postM0 (.inl rfl) ?_
    exact post_cell (n := 4) Try.results98 (by kernel_rfl) (.inl rfl) _ (bvs (zs 4)) 164 (0, 0) rfl rfl (by simp [go_sem]) s0 ⟨rfl, (by repeat (first | exact Below.refl _ _ | assumption | refine Below.alloc ?_ (by first | omega | (simp; done) | (simp; omega)) _ | refine Below.drew ?_ | refine Below.setCell ?_ (by first | omega | (simp; done) | (simp; omega)) _ | refine below_setRow' ?_ (by first | omega | (simp; done) | (simp; omega)) _ | refine below_drewN' ?_ _))⟩
theorem constAll_any (i : Int) (w : World) : Calls Try.prog 98 #[.int .i64 i] w fun e w' => e = .returned (.agg (bvs [conB i, 0, 0, 0])) ∧ Below w.heap.size w w' := by
  by_cases h : 1 ≤ i ∧ i ≤ 60
  · obtain ⟨n, rfl⟩ : ∃ n : Nat, i = (n : Int) := ⟨i.toNat, by omega⟩
    rw [conB_in n (by omega) (by omega)]
    exact constant_any n (by omega) (by omega) w
  · rw [conB_out i (by omega), ← zs4_is]
    exact constantOut_any i (by omega) w
theorem const9_any (w : World) : Calls Try.prog 98 #[.int .i64 9] w fun e w' => e = .returned (.agg (bvs [27, 0, 0, 0])) ∧ Below w.heap.size w w' := by
  rw [← conB_9]; exact constAll_any 9 w
theorem refMul2_any (a : UInt8) (w : World) : Calls Try.prog 130 #[.int .u8 a.toNat, .int .u8 2] w fun e w' => e = .returned (.int .u8 (mulB a 2).toNat) ∧ Below w.heap.size w w' := by
  rw [← refMul_2]; exact refMul_any a 2 w

set_option maxRecDepth 100000 in
set_option maxHeartbeats 1000000 in
theorem refConstant_any (i : Int) (w : World) : Calls Try.prog 106 #[.int .i64 i] w fun e w' => e = .returned (.int .u8 (conB i).toNat) ∧ Below w.heap.size w w' := by
  by_cases h : 1 ≤ i ∧ i ≤ 60
  · obtain ⟨n, rfl⟩ : ∃ n : Nat, i = (n : Int) := ⟨i.toNat, by omega⟩
    have h1 : ¬ (n : Int) < 1 := by omega
    have h2 : ¬ 60 < (n : Int) := by omega
    have hc := hid (conB_in n (by omega) (by omega))
    have hm : 1 ≤ n := by omega
    have hm60 : n ≤ 60 := by omega
    have hS0 := St.start w
    go_enter Try.func106, Try.ntmps106
    go_wp2_with fail
    go_loopw [3, 4] (fun u3 u4 wr => ∃ k : Nat, k + 1 ≤ n ∧ u3 = .int .u8 ((powB 2 k).toNat : Int) ∧ u4 = .int .i64 ((k : Int) + 1) ∧ St w wr [])
      (fun _ u4 _ => n - (intOf u4).toNat)
    case atStart => exact ⟨0, by omega, by rw [powB_zero]; rfl, rfl, hS0⟩
    case round =>
      obtain ⟨k, hk, rfl, rfl, hS⟩ := hrel
      by_cases hlt : k + 1 < n
      · have hlt2 : (k : Int) + 1 < (n : Int) := by omega
        have h62 : (k : Int) < 60 := by omega
        go_wp2_with fail
        with_reducible refine (refMul2_any (powB 2 k) _).mono ?_
        rintro e w1 ⟨rfl, hb⟩
        have hS2 := hS.call hb
        clear hS hb
        go_wp2
        go_roundw
        case rel => exact ⟨k + 1, by omega, by rw [powB_succ], by go_num, hS2⟩
        case measure => simp [intOf]; omega
      · have hkn : n - 1 = k := by omega
        have hlt2 : ¬ (k : Int) + 1 < (n : Int) := by omega
        have hB := hS.below
        have HK := hid hkn
        clear hkn
        go_wp2
        go_ret
        exact ⟨by rw [hc.out, HK.out]; rfl, hB⟩
  · have hc := hid (conB_out i (by omega))
    have hB := Below.refl w.heap.size w
    by_cases h1 : i < 1
    · go_enter Try.func106, Try.ntmps106
      go_wp2
      go_ret
      exact ⟨by rw [hc.out]; rfl, hB⟩
    · have h2 : 60 < i := by omega
      go_enter Try.func106, Try.ntmps106
      go_wp2
      go_ret
      exact ⟨by rw [hc.out]; rfl, hB⟩

end Go.Proofs.Ytkfggilildiflab

namespace Go.Proofs.Ytkfggilildiflab
open Go.RowKit

/-- What an operation of the front is: it yields this value; or it lays a new block and yields this of the block's number. -/
inductive Kind where
  | fix (v : Value)
  | fresh (mk : Nat → Value) (cs : Array Value) (t : TypeId)
def Kind.val : Kind → Nat → Value
  | .fix v, _ => v
  | .fresh mk _ _, n => mk n
abbrev Fact := Nat × Array Value × TypeId
def Kind.facts (i : Nat) : Kind → List Fact → List Fact
  | .fix _, F => F
  | .fresh _ cs t, F => (i, cs, t) :: F

section
variable {P : Program} {md : Region.Mode}

/-- The operation waits for that one, by its own word. -/
def direct (md : Region.Mode) (o : Oper) (j : Nat) : Bool := o.after.any fun e => Region.binds md e && e.on == j
/-- What the blocks hold for which the operation waits. -/
def FactsAt (md : Region.Mode) (o : Oper) (F : List Fact) (b : Nat → Nat) (w : World) : Prop := ∀ x ∈ F, direct md o x.1 = true → blk w (b x.1) = some (.cells x.2.1 x.2.2 (0, 0))
def stepOK (P : Program) (md : Region.Mode) (ops : Array Oper) (W : World) (o : Oper) (a : (Nat → Nat) → Act) (F : List Fact) : Kind → Prop
  | .fix v => ∀ b w', Cls W w' → FactsAt md o F b w' → (Region.wanted o (yielded ops (a b).tmps) = true ∧ o.quietAt P (a b) (Below w'.heap.size w') w' v) ∨ (Region.wanted o (yielded ops (a b).tmps) = false ∧ v = undef)
  | .fresh mk cs t => ∀ b w', Cls W w' → FactsAt md o F b w' → Region.wanted o (yielded ops (a b).tmps) = true ∧ (execOp (a b).eval o).run P w' = .ok (.value (mk w'.heap.size)) (w'.alloc (.cells cs t))
/-- The walk in the text's order. -/
def wpM (P : Program) (md : Region.Mode) (ops : Array Oper) (W : World) (Q : ((Nat → Nat) → Act) → List Fact → Prop) : List Oper → Nat → ((Nat → Nat) → Act) → List Fact → Prop
  | [], _, a, F => Q a F
  | o :: rest, i, a, F => ∃ κ : Kind, stepOK P md ops W o a F κ ∧ wpM P md ops W Q rest (i + 1) (fun b => (a b).put o.dst (κ.val (b i))) (κ.facts i F)

def actT : List (Oper × Kind) → Nat → Act → (Nat → Nat) → Act
  | [], _, a, _ => a
  | x :: r, i, a, b => actT r (i + 1) (a.put x.1.dst (x.2.val (b i))) b
def factsT : List (Oper × Kind) → Nat → List Fact → List Fact
  | [], _, F => F
  | x :: r, i, F => factsT r (i + 1) (x.2.facts i F)

theorem actT_snoc (x : Oper × Kind) (b : Nat → Nat) : ∀ (L : List (Oper × Kind)) (i : Nat) (a : Act), actT (L ++ [x]) i a b = (actT L i a b).put x.1.dst (x.2.val (b (i + L.length)))
  | [], _, _ => rfl
  | y :: L, i, a => by
    simp only [List.cons_append, actT, actT_snoc x b L (i + 1), List.length_cons]
    rw [show i + 1 + L.length = i + (L.length + 1) by omega]

theorem mem_factsT {f : Fact} : ∀ (L : List (Oper × Kind)) (i : Nat) (F : List Fact), f ∈ factsT L i F → f ∈ F ∨ ∃ k o mk, L[k]? = some (o, .fresh mk f.2.1 f.2.2) ∧ f.1 = i + k
  | [], _, _, h => .inl h
  | x :: L, i, F, h => by
    rcases mem_factsT L (i + 1) _ h with h1 | ⟨k, o, mk, hk, he⟩
    · obtain ⟨o, κ⟩ := x
      cases κ with
      | fix v => exact .inl h1
      | fresh mk cs t =>
        rcases List.mem_cons.1 h1 with rfl | h2
        · exact .inr ⟨0, o, mk, rfl, rfl⟩
        · exact .inl h2
    · exact .inr ⟨k + 1, o, mk, by simpa using hk, by omega⟩
theorem factsT_mem {j : Nat} {o : Oper} {mk : Nat → Value} {cs : Array Value} {t : TypeId} : ∀ (L : List (Oper × Kind)) (i : Nat) (F : List Fact), (L[j]? = some (o, .fresh mk cs t) → (i + j, cs, t) ∈ factsT L i F) ∧ ∀ f ∈ F, f ∈ factsT L i F
  | [], _, _ => ⟨fun h => by simp at h, fun _ h => h⟩
  | x :: L, i, F => by
    have hk : ∀ f ∈ F, f ∈ x.2.facts i F := fun f hf => by
      obtain ⟨o, κ⟩ := x
      cases κ with
      | fix v => exact hf
      | fresh mk cs t => exact List.mem_cons_of_mem _ hf
    refine ⟨fun h => ?_, fun f hf => (factsT_mem (j := j) (o := o) (mk := mk) (cs := cs) (t := t) L (i + 1) _).2 f (hk f hf)⟩
    cases j with
    | zero =>
      simp only [List.getElem?_cons_zero, Option.some.injEq] at h
      subst h
      exact (factsT_mem (j := 0) (o := o) (mk := mk) (cs := cs) (t := t) L (i + 1) _).2 _ (List.mem_cons_self ..)
    | succ j =>
      have := (factsT_mem (j := j) (o := o) (mk := mk) (cs := cs) (t := t) L (i + 1) (x.2.facts i F)).1 (by simpa using h)
      rw [show i + 1 + j = i + (j + 1) by omega] at this
      exact this

/-- What the walk has shown. -/
theorem wpM_out {ops : Array Oper} {W : World} {Q : ((Nat → Nat) → Act) → List Fact → Prop} : ∀ (l : List Oper) (i : Nat) (a : (Nat → Nat) → Act) (F : List Fact), wpM P md ops W Q l i a F →
    ∃ L : List (Oper × Kind), L.map (·.1) = l ∧ (∀ k x, L[k]? = some x → stepOK P md ops W x.1 (fun b => actT (L.take k) i (a b) b) (factsT (L.take k) i F) x.2) ∧ Q (fun b => actT L i (a b) b) (factsT L i F)
  | [], _, _, _, h => ⟨[], rfl, fun k x hk => by simp at hk, h⟩
  | o :: rest, i, a, F, h => by
    obtain ⟨κ, h1, h2⟩ := h
    obtain ⟨L, e, h3, h4⟩ := wpM_out rest (i + 1) _ _ h2
    refine ⟨(o, κ) :: L, by simp [e], fun k x hk => ?_, h4⟩
    cases k with
    | zero =>
      simp only [List.getElem?_cons_zero, Option.some.injEq] at hk
      subst hk
      exact h1
    | succ k => exact h3 k x (by simpa using hk)

/-! ### What a frame holds, some operations being done -/
def Sees (L : List (Oper × Kind)) (a0 : Act) (lst : Nat → Bool) (b : Nat → Nat) (a : Act) : Prop :=
  a.defers = a0.defers ∧ a.tmps.size = a0.tmps.size ∧
  (∀ j x t, L[j]? = some x → x.1.dst = some t → lst j = true → t < a0.tmps.size → a.tmps[t]? = some (x.2.val (b j))) ∧
  (∀ t, (∀ j x, L[j]? = some x → x.1.dst = some t → lst j = false) → a.tmps[t]? = a0.tmps[t]?)
def Apart (L : List (Oper × Kind)) : Prop := ∀ (j k : Nat) (x y : Oper × Kind) (t : Tmp), L[j]? = some x → L[k]? = some y → x.1.dst = some t → y.1.dst = some t → j = k

theorem Sees.start (L : List (Oper × Kind)) (a0 : Act) (b : Nat → Nat) : Sees L a0 (fun _ => false) b a0 := ⟨rfl, rfl, fun _ _ _ _ _ (h : false = true) => (by cases h), fun _ _ => rfl⟩
theorem Sees.congr {L : List (Oper × Kind)} {a0 a : Act} {l1 l2 : Nat → Bool} {b1 b2 : Nat → Nat} (h : Sees L a0 l1 b1 a) (hl : ∀ j, j < L.length → l1 j = l2 j) (hb : ∀ j, j < L.length → l1 j = true → b1 j = b2 j) : Sees L a0 l2 b2 a := by
  have lt : ∀ {j x}, L[j]? = some x → j < L.length := fun h => (List.getElem?_eq_some_iff.1 h).1
  refine ⟨h.1, h.2.1, fun j x t hj hd hlj ht => ?_, fun t ht => h.2.2.2 t fun j x hj hd => (hl j (lt hj)).trans (ht j x hj hd)⟩
  have h1 : l1 j = true := (hl j (lt hj)).trans hlj
  rw [h.2.2.1 j x t hj hd h1 ht, hb j (lt hj) h1]
theorem Sees.put {L : List (Oper × Kind)} {a0 a : Act} {lst : Nat → Bool} {b : Nat → Nat} (hA : Apart L) (h : Sees L a0 lst b a) {i : Nat} {x : Oper × Kind} (hi : L[i]? = some x) :
    Sees L a0 (fun j => j == i || lst j) b (a.put x.1.dst (x.2.val (b i))) := by
  obtain ⟨h1, h2, h3, h4⟩ := h
  cases hd : x.1.dst with
  | none =>
    refine ⟨h1, h2, fun j y t hj hy hl ht => ?_, fun t ht => h4 t fun j y hj hy => ?_⟩
    · refine h3 j y t hj hy ?_ ht
      rcases Bool.or_eq_true _ _ ▸ hl with h5 | h5
      · have : j = i := by simpa using h5
        subst this
        rw [hi] at hj; cases hj; rw [hd] at hy; cases hy
      · exact h5
    · have := ht j y hj hy
      simp only [Bool.or_eq_false_iff] at this
      exact this.2
  | some d =>
    refine ⟨h1, by simp [Act.put, h2], fun j y t hj hy hl ht => ?_, fun t ht => ?_⟩
    · simp only [Act.put]
      by_cases hji : j = i
      · subst hji
        rw [hi] at hj; cases hj; rw [hd] at hy; cases hy
        simp [h2, ht]
      · have hne : d ≠ t := fun e => hji (hA j i y x t hj hi hy (by rw [hd, e]))
        rw [Array.getElem?_setIfInBounds_ne hne]
        refine h3 j y t hj hy ?_ ht
        simpa [hji] using hl
    · simp only [Act.put]
      have hne : d ≠ t := fun e => by
        have := ht i x hi (by rw [hd, e])
        simp at this
      rw [Array.getElem?_setIfInBounds_ne hne]
      exact h4 t fun j y hj hy => by
        have := ht j y hj hy
        simp only [Bool.or_eq_false_iff] at this
        exact this.2
theorem Sees.text {L : List (Oper × Kind)} (hA : Apart L) (a0 : Act) (b : Nat → Nat) : ∀ k, k ≤ L.length → Sees L a0 (fun j => decide (j < k)) b (actT (L.take k) 0 a0 b)
  | 0, _ => (Sees.start L a0 b).congr (fun j _ => by simp) (fun _ _ _ => rfl)
  | k + 1, hk => by
    have hg : L[k]? = some L[k] := List.getElem?_eq_getElem (by omega)
    have h1 := (Sees.text hA a0 b k (by omega)).put hA hg
    rw [List.take_succ_eq_append_getElem (by omega), actT_snoc]
    have e : 0 + (L.take k).length = k := by simp; omega
    rw [e]
    exact h1.congr (fun j _ => by rw [Bool.eq_iff_iff]; simp only [Bool.or_eq_true, beq_iff_eq, decide_eq_true_eq]; omega) (fun _ _ _ => rfl)
theorem Sees.same {L : List (Oper × Kind)} {a0 a1 a2 : Act} {l1 l2 : Nat → Bool} {b : Nat → Nat} (h1 : Sees L a0 l1 b a1) (h2 : Sees L a0 l2 b a2) (t : Tmp) (ht : ∀ j x, L[j]? = some x → x.1.dst = some t → l1 j = true ∧ l2 j = true) :
    a1.tmps[t]? = a2.tmps[t]? := by
  by_cases hj : ∃ (j : Nat) (x : Oper × Kind), L[j]? = some x ∧ x.1.dst = some t
  · obtain ⟨j, x, hj, hd⟩ := hj
    rcases Nat.lt_or_ge t a0.tmps.size with h | h
    · rw [h1.2.2.1 j x t hj hd (ht j x hj hd).1 h, h2.2.2.1 j x t hj hd (ht j x hj hd).2 h]
    · rw [Array.getElem?_eq_none (by rw [h1.2.1]; exact h), Array.getElem?_eq_none (by rw [h2.2.1]; exact h)]
  · have hn : ∀ (l : Nat → Bool) j x, L[j]? = some x → x.1.dst = some t → l j = false := fun l j x h3 h4 => (hj ⟨j, x, h3, h4⟩).elim
    rw [h1.2.2.2 t (hn l1), h2.2.2.2 t (hn l2)]

theorem eval_same {a1 a2 : Act} {ops : Array Oper} {o : Oper} (hs : ∀ cs b, o.op ≠ .select cs b) (h : ∀ t ∈ o.looksAt ops, a1.tmps[t]? = a2.tmps[t]?) :
    execOp a1.eval o = execOp a2.eval o ∧ Region.wanted o (yielded ops a1.tmps) = Region.wanted o (yielded ops a2.tmps) := by
  constructor
  · refine execOp_congr o hs fun x hx => ?_
    cases x with
    | tmp t =>
      have := h t (List.mem_append_left _ (List.mem_filterMap.2 ⟨.tmp t, by simpa using hx, rfl⟩))
      simp only [Act.eval, Array.getD_eq_getD_getElem?, this]
    | const v => rfl
    | global g => rfl
    | func f => rfl
  · unfold Region.wanted
    cases hg : o.guard with
    | none => rfl
    | some gw =>
      obtain ⟨g, want⟩ := gw
      have : yielded ops a1.tmps g = yielded ops a2.tmps g := by
        unfold yielded
        cases ht : (ops[g]?).bind (·.dst) with
        | none => rfl
        | some t =>
          have := h t (List.mem_append_right _ (by simp [hg, ht]))
          simp only [Option.bind_some, this]
      simp only [this]

theorem wp_of_at {o : Oper} {a : Act} {v : Value} {K : Act → World → Prop} {Q : Exit → Act → World → Prop} {w : World} {C : World → Prop} (hC : C w) (h : o.quietAt P a C w v) (hK : ∀ w', C w' → K (a.put o.dst v) w') : o.wp P a w K Q := by
  unfold Oper.quietAt at h
  unfold Oper.wp
  generalize (execOp a.eval o).run P w = r at *
  cases r with
  | halt x w' => exact h.elim
  | ok n w' =>
    cases n <;> simp only [Oper.quietUpon] at h <;> simp only [Oper.upon]
    case value u => obtain ⟨rfl, rfl⟩ := h; exact hK _ hC
    case skip => obtain ⟨rfl, rfl⟩ := h; exact hK _ hC
    case enter f args =>
      obtain ⟨rfl, h⟩ := h
      exact h.mono fun e w'' he => by obtain ⟨rfl, hw⟩ := he; exact hK _ hw

/-! ### How many are left -/
def left (listed : Array Bool) : Nat := listed.toList.countP (!·)
theorem left_set {listed : Array Bool} {i : Nat} (h : listed.getD i true = false) : left (listed.setIfInBounds i true) + 1 ≤ left listed := by
  have hi : i < listed.size := by
    rcases Nat.lt_or_ge i listed.size with h' | h'
    · exact h'
    · simp [Array.getElem?_eq_none h'] at h
  have hv : listed.toList[i]'(by simpa using hi) = false := by
    simp only [Array.getD, hi, dif_pos] at h
    simpa using h
  unfold left
  rw [Array.toList_setIfInBounds, List.countP_set (by simpa using hi)]
  have hp : 0 < listed.toList.countP (!·) := List.countP_pos_iff.2 ⟨listed.toList[i]'(by simpa using hi), List.getElem_mem _, by simp [hv]⟩
  rw [hv]
  simp only [Bool.not_false, Bool.not_true, if_true, Bool.false_eq_true, if_false]
  omega
theorem left_pos {listed : Array Bool} {i : Nat} (h : listed.getD i true = false) : 0 < left listed := by
  have := left_set h; omega

/-! ### The tail: each of its operations waits for all before it -/
def waits (md : Region.Mode) (ops : Array Oper) : Nat → Oper → Nat → Bool
  | 0, o, j => direct md o j
  | f + 1, o, j => direct md o j || o.after.any fun e => Region.binds md e && match ops[e.on]? with | some o' => waits md ops f o' j | none => false
/-- What is done, for that all is done which it waits for. -/
def Closed (md : Region.Mode) (ops : Array Oper) (listed : Array Bool) : Prop := ∀ (j : Nat) (o : Oper), ops[j]? = some o → listed.getD j false = true → ∀ e ∈ o.after, Region.binds md e = true → listed.getD e.on false = true
theorem waits_listed {ops : Array Oper} {listed : Array Bool} (hcl : Closed md ops listed) : ∀ (f : Nat) (o : Oper) (j : Nat), (∀ e ∈ o.after, Region.binds md e = true → listed.getD e.on false = true) → waits md ops f o j = true → listed.getD j false = true := by
  have base : ∀ (o : Oper) (j : Nat), (∀ e ∈ o.after, Region.binds md e = true → listed.getD e.on false = true) → direct md o j = true → listed.getD j false = true := fun o j hall hd => by
    obtain ⟨e, he, hb⟩ := Array.any_eq_true'.1 hd
    simp only [Bool.and_eq_true, beq_iff_eq] at hb
    rw [← hb.2]; exact hall e he hb.1
  intro f
  induction f with
  | zero => exact base
  | succ f ih =>
    intro o j hall h
    simp only [waits, Bool.or_eq_true] at h
    rcases h with h | h
    · exact base o j hall h
    · obtain ⟨e, he, hb⟩ := Array.any_eq_true'.1 h
      simp only [Bool.and_eq_true] at hb
      cases ho : ops[e.on]? with
      | none => simp [ho] at hb
      | some o' =>
        have h2 := hb.2
        simp only [ho] at h2
        exact ih o' j (hcl e.on o' ho (hall e he hb.1)) h2
theorem Closed.set {ops : Array Oper} {listed : Array Bool} (hcl : Closed md ops listed) {i : Nat} (hi : i ∈ Region.ready md ops listed) : Closed md ops (listed.setIfInBounds i true) := fun j o ho hl e he hb => by
  refine getD_set_true ?_
  by_cases hij : i = j
  · subst hij
    obtain ⟨_, o', ho', hall⟩ := mem_ready.1 hi
    rw [ho] at ho'; cases ho'
    exact hall e he hb
  · rw [getD_set_ne false hij] at hl
    exact hcl j o ho hl e he hb
theorem ready_waits {ops : Array Oper} {listed : Array Bool} (hcl : Closed md ops listed) {i j : Nat} {o : Oper} (hr : i ∈ Region.ready md ops listed) (ho : ops[i]? = some o) {f : Nat} (hd : waits md ops f o j = true) : listed.getD j false = true := by
  obtain ⟨_, o', ho', hall⟩ := mem_ready.1 hr
  rw [ho] at ho'
  cases ho'
  exact waits_listed hcl f o j hall hd
def tailOK (md : Region.Mode) (ops : Array Oper) (n : Nat) (T : List Oper) : Bool := (List.range T.length).all fun k => match T[k]? with | some t => (List.range (n + k)).all fun i => waits md ops 6 t i | none => true
theorem tailOK_spec {ops : Array Oper} {n k : Nat} {T : List Oper} (h : tailOK md ops n T = true) {t : Oper} (hk : T[k]? = some t) {i : Nat} (hi : i < n + k) : waits md ops 6 t i = true := by
  have hlt : k < T.length := (List.getElem?_eq_some_iff.1 hk).1
  have h1 := List.all_eq_true.1 h k (List.mem_range.2 hlt)
  simp only [hk] at h1
  exact List.all_eq_true.1 h1 i (List.mem_range.2 hi)
theorem direct_listed {ops : Array Oper} {listed : Array Bool} {i j : Nat} {o : Oper} (hr : i ∈ Region.ready md ops listed) (ho : ops[i]? = some o) (hd : direct md o j = true) : listed.getD j false = true := by
  obtain ⟨_, o', ho', hall⟩ := mem_ready.1 hr
  rw [ho] at ho'
  cases ho'
  obtain ⟨e, he, hb⟩ := Array.any_eq_true'.1 hd
  simp only [Bool.and_eq_true, beq_iff_eq] at hb
  rw [← hb.2]
  exact hall e he hb.1
theorem getD_flip {listed : Array Bool} {j : Nat} (hj : j < listed.size) (d e : Bool) : listed.getD j d = listed.getD j e := by simp [Array.getD, hj]

theorem any_tail {Q : Exit → Act → World → Prop} {l T : List Oper} (hdn : downB md (l ++ T) = true) (hT : tailOK md (l ++ T).toArray l.length T = true) : ∀ (r : List Oper) (k fuel : Nat) (listed : Array Bool) (a : Act) (w : World), T.drop k = r → listed.size = (l ++ T).length → Closed md (l ++ T).toArray listed →
    (∀ j, j < l.length + k → listed.getD j false = true) → (∀ j, l.length + k ≤ j → j < (l ++ T).length → listed.getD j true = false) → left listed ≤ fuel → wpList P (l ++ T).toArray Q r a w → wpAny P md (l ++ T).toArray Q fuel listed a w
  | [], k, fuel, listed, a, w, hr, hsz, hcl, hl, _, _, h => by
    have hk : T.length ≤ k := List.drop_eq_nil_iff.1 hr
    refine ready_none ?_ h fuel
    rw [List.eq_nil_iff_forall_not_mem]
    intro i hi
    obtain ⟨h0, o, ho, _⟩ := mem_ready.1 hi
    have hi' : i < (l ++ T).length := by simpa using (Array.getElem?_eq_some_iff.1 ho).1
    have h1 := hl i (by simp only [List.length_append] at hi'; omega)
    rw [getD_flip (by omega) true false, h1] at h0
    cases h0
  | o :: r, k, fuel, listed, a, w, hr, hsz, hcl, hl, hu, hf, h => by
    have hk : k < T.length := by
      rcases Nat.lt_or_ge k T.length with h' | h'
      · exact h'
      · rw [List.drop_of_length_le h'] at hr; cases hr
    have ho : T[k]? = some o := by
      have := congrArg (fun l => l[0]?) hr
      simpa using this
    have hgo : (l ++ T).toArray[l.length + k]? = some o := by
      simp only [List.getElem?_toArray]
      rw [List.getElem?_append_right (by omega), Nat.add_sub_cancel_left, ho]
    have hun : listed.getD (l.length + k) true = false := hu _ (Nat.le_refl _) (by simp; omega)
    cases fuel with
    | zero => have := left_pos hun; omega
    | succ fuel =>
      refine ⟨fun h0 => absurd h0 (some_ready hdn hsz (l.length + k) (by simp; omega) hun), fun i hi => ?_⟩
      have hik : i = l.length + k := by
        obtain ⟨h0, oi, hoi, _⟩ := mem_ready.1 hi
        have hi' : i < (l ++ T).length := by simpa using (Array.getElem?_eq_some_iff.1 hoi).1
        rcases Nat.lt_trichotomy i (l.length + k) with h' | h' | h'
        · rw [getD_flip (by omega) true false, hl i h'] at h0; cases h0
        · exact h'
        · have hoT : T[i - l.length]? = some oi := by
            simp only [List.getElem?_toArray] at hoi
            rwa [List.getElem?_append_right (by omega)] at hoi
          have := ready_waits hcl hi hoi (tailOK_spec hT hoT (i := l.length + k) (by omega))
          rw [getD_flip (by simp only [List.length_append] at hsz; omega) false true, hun] at this
          cases this
      subst hik
      have hw : wpOp P (l ++ T).toArray Q (l.length + k) (wpList P (l ++ T).toArray Q r) a w := by
        unfold wpOp
        rw [hgo]
        exact h
      have hd : T.drop (k + 1) = r := by
        have := congrArg List.tail hr
        simpa using this
      refine wpOp_mono (fun a' w' h' => any_tail hdn hT r (k + 1) fuel _ a' w' hd (by simpa using hsz) (hcl.set hi) (fun j hj => ?_) (fun j hj hj2 => ?_) (by have := left_set hun; omega) h') hw
      · by_cases hjk : l.length + k = j
        · subst hjk
          have : l.length + k < listed.size := by simp only [List.length_append] at hsz; omega
          simp [Array.getD, this]
        · rw [getD_set_ne false hjk]; exact hl j (by omega)
      · rw [getD_set_ne true (by omega)]; exact hu j (by omega) hj2

/-! ### The front -/
def frontOK (md : Region.Mode) (l T : List Oper) : Bool :=
  Region.noSelect l.toArray && downB md (l ++ T) && tailOK md (l ++ T).toArray l.length T &&
  (List.range l.length).all fun i => match l[i]? with
    | some o => (List.range l.length).all fun j => match l[j]? with
      | some y => match y.dst with
        | some t => (i == j || o.dst != some t) && (!(o.looksAt (l ++ T).toArray).contains t || (decide (j < i) && direct md o j))
        | none => true
      | none => true
    | none => true

/-- What the new blocks hold, and where they lie. -/
def New (W : World) (L : List (Oper × Kind)) (lst : Nat → Bool) (b : Nat → Nat) (w : World) : Prop :=
  Cls W w ∧ (∀ j o mk cs t, L[j]? = some (o, .fresh mk cs t) → lst j = true → W.heap.size ≤ b j ∧ blk w (b j) = some (.cells cs t (0, 0))) ∧
  (∀ i j x y mx cx tx my cy ty, L[i]? = some (x, .fresh mx cx tx) → L[j]? = some (y, .fresh my cy ty) → lst i = true → lst j = true → i ≠ j → b i ≠ b j)
theorem New.step {W w w' : World} {L : List (Oper × Kind)} {l1 l2 : Nat → Bool} {b : Nat → Nat} (h : New W L l1 b w) (hb : Below w.heap.size w w') (hl : ∀ j o mk cs t, L[j]? = some (o, .fresh mk cs t) → l2 j = true → l1 j = true) : New W L l2 b w' :=
  ⟨h.1.step hb, fun j o mk cs t hj hl2 => by
    have h1 := h.2.1 j o mk cs t hj (hl j o mk cs t hj hl2)
    exact ⟨h1.1, (hb.block _ (blk_lt h1.2)).trans h1.2⟩,
   fun i j x y mx cx tx my cy ty hi hj h1 h2 => h.2.2 i j x y mx cx tx my cy ty hi hj (hl i _ _ _ _ hi h1) (hl j _ _ _ _ hj h2)⟩
theorem New.lay {W w : World} {L : List (Oper × Kind)} {lst : Nat → Bool} {b : Nat → Nat} (h : New W L lst b w) {i : Nat} {o : Oper} {mk : Nat → Value} {cs : Array Value} {t : TypeId} (hi : L[i]? = some (o, .fresh mk cs t)) (hun : lst i = false) :
    New W L (fun j => j == i || lst j) (fun j => if j = i then w.heap.size else b j) (w.alloc (.cells cs t)) := by
  have hb : Below w.heap.size w (w.alloc (.cells cs t)) := (Below.refl _ _).alloc (Nat.le_refl _) _
  refine ⟨h.1.step hb, fun j o' mk' cs' t' hj hl => ?_, fun p q x y mx cx tx my cy ty hp hq h1 h2 hne => ?_⟩ <;> dsimp only
  · by_cases hji : j = i
    · subst hji
      rw [hi] at hj; cases hj
      rw [if_pos rfl]
      exact ⟨h.1.size, by rw [blk_alloc, if_pos rfl]⟩
    · rw [if_neg hji]
      have h1 := h.2.1 j o' mk' cs' t' hj (by simpa [hji] using hl)
      exact ⟨h1.1, (hb.block _ (blk_lt h1.2)).trans h1.2⟩
  · have old : ∀ j x mx cx tx, L[j]? = some (x, .fresh mx cx tx) → (j == i || lst j) = true → j ≠ i → b j < w.heap.size := fun j x mx cx tx hj hl hne =>
      blk_lt (h.2.1 j x mx cx tx hj (by simpa [hne] using hl)).2
    by_cases hpi : p = i
    · subst hpi
      rw [if_pos rfl, if_neg (Ne.symm hne)]
      have := old q y my cy ty hq h2 (Ne.symm hne)
      omega
    · rw [if_neg hpi]
      by_cases hqi : q = i
      · subst hqi
        rw [if_pos rfl]
        have := old p x mx cx tx hp h1 hpi
        omega
      · rw [if_neg hqi]
        exact h.2.2 p q x y mx cx tx my cy ty hp hq (by simpa [hpi] using h1) (by simpa [hqi] using h2) hne

theorem any_front {Q : Exit → Act → World → Prop} {l T : List Oper} {W : World} {a0 : Act} {L : List (Oper × Kind)} (hB : frontOK md l T = true) (hL : L.map (·.1) = l)
    (hstep : ∀ k x, L[k]? = some x → stepOK P md (l ++ T).toArray W x.1 (fun b => actT (L.take k) 0 a0 b) (factsT (L.take k) 0 []) x.2)
    (hQ : ∀ b w', New W L (fun _ => true) b w' → wpList P (l ++ T).toArray Q T (actT L 0 a0 b) w') :
    ∀ (fuel : Nat) (listed : Array Bool) (b : Nat → Nat) (a : Act) (w : World), listed.size = (l ++ T).length → Closed md (l ++ T).toArray listed → (∀ j, l.length ≤ j → j < (l ++ T).length → listed.getD j true = false) → left listed ≤ fuel →
      Sees L a0 (fun j => listed.getD j false) b a → New W L (fun j => listed.getD j false) b w → wpAny P md (l ++ T).toArray Q fuel listed a w := by
  simp only [frontOK, Bool.and_eq_true] at hB
  obtain ⟨⟨⟨hsel, hdn⟩, hT⟩, hall⟩ := hB
  have hLl : L.length = l.length := by rw [← hL]; simp
  have hlo : ∀ {i : Nat} {x : Oper × Kind}, L[i]? = some x → l[i]? = some x.1 := fun {i x} h => by rw [← hL]; simp [h]
  have hpair : ∀ {i j : Nat} {x y : Oper × Kind} {t : Tmp}, L[i]? = some x → L[j]? = some y → y.1.dst = some t →
      ((i = j ∨ x.1.dst ≠ some t) ∧ (t ∈ x.1.looksAt (l ++ T).toArray → j < i ∧ direct md x.1 j = true)) := fun {i j x y t} hi hj hd => by
    have hil : i < l.length := by rw [← hLl]; exact (List.getElem?_eq_some_iff.1 hi).1
    have hjl : j < l.length := by rw [← hLl]; exact (List.getElem?_eq_some_iff.1 hj).1
    have h1 := List.all_eq_true.1 hall i (List.mem_range.2 hil)
    simp only [hlo hi] at h1
    have h2 := List.all_eq_true.1 h1 j (List.mem_range.2 hjl)
    simp only [hlo hj, hd, Bool.and_eq_true, Bool.or_eq_true, beq_iff_eq, bne_iff_ne, Bool.not_eq_true', decide_eq_true_eq] at h2
    refine ⟨h2.1, fun ht => h2.2.resolve_left ?_⟩
    simp [ht]
  have hA : Apart L := fun j k x y t hj hk hx hy => ((hpair hj hk hy).1).resolve_right fun h => h hx
  have hfin : ∀ (fuel : Nat) (listed : Array Bool) (b : Nat → Nat) (a : Act) (w : World), listed.size = (l ++ T).length → Closed md (l ++ T).toArray listed → (∀ j, l.length ≤ j → j < (l ++ T).length → listed.getD j true = false) → left listed ≤ fuel →
      Sees L a0 (fun j => listed.getD j false) b a → New W L (fun j => listed.getD j false) b w → (∀ j, j < l.length → listed.getD j false = true) → wpAny P md (l ++ T).toArray Q fuel listed a w := by
    intro fuel listed b a w hsz hcl hu hf hS hN hdone
    have ha : a = actT L 0 a0 b := by
      have h2 := Sees.text hA a0 b L.length (Nat.le_refl _)
      rw [List.take_length] at h2
      have ht : a.tmps = (actT L 0 a0 b).tmps := Array.ext_getElem? fun t => hS.same h2 t fun j x hj _ => by
        have hjl : j < L.length := (List.getElem?_eq_some_iff.1 hj).1
        exact ⟨hdone j (by omega), by simpa using hjl⟩
      have hd : a.defers = (actT L 0 a0 b).defers := hS.1.trans h2.1.symm
      cases a
      cases h : actT L 0 a0 b
      rw [h] at ht hd
      simp only at ht hd
      rw [ht, hd]
    subst ha
    have hN' : New W L (fun _ => true) b w := hN.step (Below.refl _ _) fun j o mk cs t hj _ => hdone j (by rw [← hLl]; exact (List.getElem?_eq_some_iff.1 hj).1)
    exact any_tail hdn hT T 0 fuel listed _ w rfl hsz hcl (fun j hj => hdone j (by simpa using hj)) (fun j hj hj2 => hu j (by simpa using hj) hj2) hf (hQ b w hN')
  intro fuel
  induction fuel with
  | zero =>
    intro listed b a w hsz hcl hu hf hS hN
    refine hfin 0 listed b a w hsz hcl hu hf hS hN fun j hj => ?_
    cases hv : listed.getD j false with
    | true => rfl
    | false =>
      rw [getD_flip (by simp only [List.length_append] at hsz; omega) false true] at hv
      have := left_pos hv; omega
  | succ fuel ih =>
    intro listed b a w hsz hcl hu hf hS hN
    by_cases hdone : ∀ j, j < l.length → listed.getD j false = true
    · exact hfin (fuel + 1) listed b a w hsz hcl hu hf hS hN hdone
    · simp only [Classical.not_forall] at hdone
      obtain ⟨m, hm, hmu⟩ := hdone
      have hmu' : listed.getD m false = false := by simpa using hmu
      have hmt : listed.getD m true = false := by rw [getD_flip (by simp only [List.length_append] at hsz; omega) true false]; exact hmu'
      refine ⟨fun h0 => absurd h0 (some_ready hdn hsz m (by simp only [List.length_append]; omega) hmt), fun i hi => ?_⟩
      obtain ⟨hiu, oi, hoi, _⟩ := mem_ready.1 hi
      have hi' : i < (l ++ T).length := by simpa using (Array.getElem?_eq_some_iff.1 hoi).1
      have hil : i < l.length := by
        rcases Nat.lt_or_ge i l.length with h' | h'
        · exact h'
        · have hoT : T[i - l.length]? = some oi := by
            simp only [List.getElem?_toArray] at hoi
            rwa [List.getElem?_append_right h'] at hoi
          have := ready_waits hcl hi hoi (tailOK_spec hT hoT (i := m) (by omega))
          rw [hmu'] at this; cases this
      have hgx : L[i]? = some (L[i]'(by omega)) := List.getElem?_eq_getElem (by omega)
      generalize L[i]'(by omega) = x at hgx
      have hox : oi = x.1 := by
        simp only [List.getElem?_toArray] at hoi
        rw [List.getElem?_append_left hil, hlo hgx] at hoi
        exact (Option.some.inj hoi).symm
      subst hox
      have hsel' : ∀ cs b, x.1.op ≠ .select cs b := fun cs b => Region.noSelect_spec hsel i x.1 cs b (by simpa using hlo hgx)
      have htext := Sees.text hA a0 b i (by omega)
      have hiu' : listed.getD i false = false := by rw [getD_flip (by omega) false true]; exact hiu
      -- the frame in the text's order looks the same to this operation
      have hsame := eval_same (ops := (l ++ T).toArray) hsel' (a1 := a) (a2 := actT (L.take i) 0 a0 b) fun t ht => hS.same htext t fun j y hj hd => by
        have h1 := (hpair hgx hj hd).2 ht
        exact ⟨direct_listed hi hoi h1.2, by simpa using h1.1⟩
      have hF : FactsAt md x.1 (factsT (L.take i) 0 []) b w := fun f hf hd => by
        rcases mem_factsT _ _ _ hf with h1 | ⟨k, o, mk, hk, he⟩
        · cases h1
        · have hk' : L[k]? = some (o, .fresh mk f.2.1 f.2.2) := by
            rw [List.getElem?_take] at hk
            split at hk
            · exact hk
            · cases hk
          have : f.1 = k := by omega
          rw [this] at hd ⊢
          exact (hN.2.1 k o mk _ _ hk' (direct_listed hi hoi hd)).2
      have hst := hstep i x hgx
      have hset : ∀ j, j < L.length → (j == i || listed.getD j false) = (listed.setIfInBounds i true).getD j false := fun j hj => by
        by_cases hji : i = j
        · subst hji
          simp [Array.getD, show i < listed.size by omega]
        · rw [getD_set_ne false hji]; simp [Ne.symm hji]
      have hu' : ∀ j, l.length ≤ j → j < (l ++ T).length → (listed.setIfInBounds i true).getD j true = false := fun j hj hj2 => by
        rw [getD_set_ne true (by omega)]; exact hu j hj hj2
      have hf' : left (listed.setIfInBounds i true) ≤ fuel := by have := left_set hiu; omega
      have hgo : ∀ (b' : Nat → Nat) (w' : World), Sees L a0 (fun j => j == i || listed.getD j false) b' (a.put x.1.dst (x.2.val (b' i))) → New W L (fun j => j == i || listed.getD j false) b' w' →
          wpAny P md (l ++ T).toArray Q fuel (listed.setIfInBounds i true) (a.put x.1.dst (x.2.val (b' i))) w' := fun b' w' hS' hN' =>
        ih _ b' _ w' (by simpa using hsz) (hcl.set hi) hu' hf' (hS'.congr hset (fun _ _ _ => rfl)) (hN'.step (Below.refl _ _) fun j o mk cs t hj hl => by
          rw [hset j (List.getElem?_eq_some_iff.1 hj).1]; exact hl)
      obtain ⟨o, κ⟩ := x
      unfold wpOp
      rw [hoi]
      simp only
      cases κ with
      | fix v =>
        have hkeep : ∀ w', Below w.heap.size w w' → New W L (fun j => j == i || listed.getD j false) b w' := fun w' hb => hN.step hb fun j o' mk cs t hj hl => by
          by_cases hji : j = i
          · subst hji; rw [hgx] at hj; cases hj
          · simpa [hji] using hl
        have hS' := hS.put hA hgx
        rcases hst b w hN.1 hF with ⟨hw, hq⟩ | ⟨hw, hv⟩
        · rw [← hsame.2] at hw
          rw [if_pos hw]
          refine .inl (wp_of_at (C := Below w.heap.size w) (Below.refl _ _) (v := v) ?_ fun w' hb => hgo b w' hS' (hkeep w' hb))
          unfold Oper.quietAt at hq ⊢
          rw [hsame.1]
          exact hq
        · rw [← hsame.2] at hw
          rw [if_neg (by rw [hw]; decide)]
          have h1 := hgo b w hS' (hkeep w (Below.refl _ _))
          simp only [Kind.val, hv] at h1
          exact h1
      | fresh mk cs t =>
        have hN' := hN.lay hgx hiu'
        have hS1 : Sees L a0 (fun j => listed.getD j false) (fun j => if j = i then w.heap.size else b j) a := hS.congr (fun _ _ => rfl) fun j _ hl => by
          rw [if_neg]
          intro e
          subst e
          rw [hiu'] at hl; cases hl
        have hS' := hS1.put hA hgx
        obtain ⟨hw, hr⟩ := hst b w hN.1 hF
        rw [← hsame.2] at hw
        rw [if_pos hw]
        refine .inl ?_
        have h1 := hgo _ _ hS' hN'
        unfold Oper.wp
        rw [hsame.1, hr, Oper.upon_value]
        simpa [Kind.val] using h1

/-- **The region: one walk in the text's order.** -/
theorem region_mono {id : Nat} {Q : Exit → Act → World → Prop} {a : Act} {w : World} (l T : List Oper) (hm : P.follows .mixedOrders = true) (hB : frontOK .any l T = true)
    (h : wpM P .any (l ++ T).toArray w (fun a' F => ∀ b w', Cls w w' → (∀ x ∈ F, w.heap.size ≤ b x.1 ∧ blk w' (b x.1) = some (.cells x.2.1 x.2.2 (0, 0))) → (∀ x ∈ F, ∀ y ∈ F, x.1 ≠ y.1 → b x.1 ≠ b y.1) → wpList P (l ++ T).toArray Q T (a' b) w') l 0 (fun _ => a) []) :
    (Code.region id (l ++ T).toArray true).wp P Q a w := by
  obtain ⟨L, hL, hstep, hQ⟩ := wpM_out l 0 _ [] h
  refine wp_region_any hm (any_front hB hL hstep (fun b w' hN => hQ b w' hN.1 (fun x hx => ?_) (fun x hx y hy hne => ?_)) _ _ (fun _ => 0) a _ (by simp) (fun j o _ hl => by simp only [Array.getD] at hl; split at hl <;> simp at hl) (fun j _ hj => by simp only [List.length_append] at hj; simp [Array.getD]; omega) ?_ ?_ ?_)
  · rcases mem_factsT _ _ _ hx with h1 | ⟨k, o, mk, hk, he⟩
    · cases h1
    · have : x.1 = k := by omega
      rw [this]
      exact hN.2.1 k o mk _ _ hk rfl
  · rcases mem_factsT _ _ _ hx with h1 | ⟨k, o, mk, hk, he⟩
    · cases h1
    rcases mem_factsT _ _ _ hy with h1 | ⟨k', o', mk', hk', he'⟩
    · cases h1
    have e1 : x.1 = k := by omega
    have e2 : y.1 = k' := by omega
    rw [e1, e2] at hne ⊢
    exact hN.2.2 k k' _ _ _ _ _ _ _ _ hk hk' rfl rfl hne
  · unfold left
    exact Nat.le_trans List.countP_le_length (by simp)
  · refine (Sees.start L a (fun _ => 0)).congr (fun j _ => ?_) (fun _ _ _ => rfl)
    simp only [Array.getD]
    split <;> simp
  · refine ⟨⟨rfl, rfl, rfl, Nat.le_refl _, fun _ _ => rfl⟩, fun j o mk cs t hj hl => ?_, fun i j x y mx cx tx my cy ty hi hj h1 _ => ?_⟩
    · simp only [Array.getD] at hl
      split at hl <;> simp at hl
    · simp only [Array.getD] at h1
      split at h1 <;> simp at h1

theorem region_mono_lit {id : Nat} {Q : Exit → Act → World → Prop} {a : Act} {w : World} {l : List Oper} (n : Nat) (hm : P.follows .mixedOrders = true) (hB : frontOK .any (l.take n) (l.drop n) = true)
    (h : wpM P .any l.toArray w (fun a' F => ∀ b w', Cls w w' → (∀ x ∈ F, w.heap.size ≤ b x.1 ∧ blk w' (b x.1) = some (.cells x.2.1 x.2.2 (0, 0))) → (∀ x ∈ F, ∀ y ∈ F, x.1 ≠ y.1 → b x.1 ≠ b y.1) → wpList P l.toArray Q (l.drop n) (a' b) w') (l.take n) 0 (fun _ => a) []) :
    (Code.region id l.toArray true).wp P Q a w := by
  have := region_mono (P := P) (id := id) (Q := Q) (a := a) (w := w) (l.take n) (l.drop n) hm hB (by rwa [List.take_append_drop])
  rwa [List.take_append_drop] at this

variable {ops : Array Oper} {W : World} {Q : ((Nat → Nat) → Act) → List Fact → Prop} {o : Oper} {rest : List Oper} {i : Nat} {a : (Nat → Nat) → Act} {F : List Fact}
theorem wpM_nil (h : Q a F) : wpM P md ops W Q [] i a F := h
theorem wpM_skip (hw : ∀ b, Region.wanted o (yielded ops (a b).tmps) = false) (h : wpM P md ops W Q rest (i + 1) (fun b => (a b).put o.dst undef) F) : wpM P md ops W Q (o :: rest) i a F :=
  ⟨.fix undef, fun b _ _ _ => .inr ⟨hw b, rfl⟩, h⟩
theorem wpM_want (hw : ∀ b, Region.wanted o (yielded ops (a b).tmps) = true)
    (h : ∀ K : ((Nat → Nat) → Act) → List Fact → Prop, (∀ a F, wpM P md ops W Q rest (i + 1) a F → K a F) → ∃ v, (∀ b w', Cls W w' → FactsAt md o F b w' → o.quietAt P (a b) (Below w'.heap.size w') w' v) ∧ K (fun b => (a b).put o.dst v) F) : wpM P md ops W Q (o :: rest) i a F := by
  obtain ⟨v, h1, h2⟩ := h (fun a F => wpM P md ops W Q rest (i + 1) a F) (fun _ _ h => h)
  exact ⟨.fix v, fun b w' hw' hF => .inl ⟨hw b, h1 b w' hw' hF⟩, h2⟩
theorem wpM_alloc {t : TypeId} (ho : o.op = .alloc t) (hw : ∀ b, Region.wanted o (yielded ops (a b).tmps) = true) (cs : Array Value) (hz : ∀ w, (execOp (fun _ => undef) { o with op := .alloc t }).run P w = .ok (.value (.pointer (some ⟨w.heap.size, 0, none⟩))) (w.alloc (.cells cs t)))
    (h : wpM P md ops W Q rest (i + 1) (fun b => (a b).put o.dst (.pointer (some ⟨b i, 0, none⟩))) ((i, cs, t) :: F)) : wpM P md ops W Q (o :: rest) i a F :=
  ⟨.fresh (fun n => .pointer (some ⟨n, 0, none⟩)) cs t, fun b w' _ _ => ⟨hw b, by
    have : execOp (a b).eval o = execOp (fun _ => undef) { o with op := .alloc t } := by
      obtain ⟨dst, op, type, pos, after, guard⟩ := o
      simp only at ho
      subst ho
      rfl
    rw [this]; exact hz w'⟩, h⟩
theorem wpM_slice (n c : Nat) (t : TypeId) (hw : ∀ b, Region.wanted o (yielded ops (a b).tmps) = true) (cs : Array Value)
    (hz : ∀ b w', Cls W w' → FactsAt md o F b w' → (execOp (a b).eval o).run P w' = .ok (.value (.slice (some ⟨w'.heap.size, 0, none⟩) n c)) (w'.alloc (.cells cs t)))
    (h : wpM P md ops W Q rest (i + 1) (fun b => (a b).put o.dst (.slice (some ⟨b i, 0, none⟩) n c)) ((i, cs, t) :: F)) : wpM P md ops W Q (o :: rest) i a F :=
  ⟨.fresh (fun m => .slice (some ⟨m, 0, none⟩) n c) cs t, fun b w' hw' hF => ⟨hw b, hz b w' hw' hF⟩, h⟩
def isSlice (o : Oper) : Bool := match o.op with | .buildSlice .. => true | .makeSlice .. => true | _ => false
theorem wpM_slice' (_ : isSlice o = true) (hw : ∀ b, Region.wanted o (yielded ops (a b).tmps) = true)
    (h : ∀ K : ((Nat → Nat) → Act) → List Fact → Prop, (∀ a F, wpM P md ops W Q rest (i + 1) a F → K a F) → ∃ n c t cs, (∀ b w', Cls W w' → FactsAt md o F b w' → (execOp (a b).eval o).run P w' = .ok (.value (.slice (some ⟨w'.heap.size, 0, none⟩) n c)) (w'.alloc (.cells cs t))) ∧ K (fun b => (a b).put o.dst (.slice (some ⟨b i, 0, none⟩) n c)) ((i, cs, t) :: F)) :
    wpM P md ops W Q (o :: rest) i a F := by
  obtain ⟨n, c, t, cs, h1, h2⟩ := h (fun a F => wpM P md ops W Q rest (i + 1) a F) (fun _ _ h => h)
  exact wpM_slice n c t hw cs h1 h2
end
theorem FactsAt.at {md : Region.Mode} {o : Oper} {F : List Fact} {b : Nat → Nat} {w : World} {i : Nat} {cs : Array Value} {t : TypeId} (h : FactsAt md o F b w) (hm : (i, cs, t) ∈ F) (hd : direct md o i = true) : blk w (b i) = some (.cells cs t (0, 0)) := h _ hm hd
theorem facts_of {w : World} {b : Nat} {cs : Array Value} {t : TypeId} (h : blk w b = some (.cells cs t (0, 0))) :
    blk w b = some (.cells cs t (0, 0)) ∧ (∀ o, w.cell? ⟨b, o, none⟩ = cs[o]?) ∧ (∀ o, w.frozen? ⟨b, o, none⟩ = false) ∧ b < w.heap.size :=
  ⟨h, fun o => cell_of_row w b o cs t _ h, fun o => frozen_of_row w b o cs t h, blk_lt h⟩
theorem St.news {w0 W w' : World} {L : List (Nat × Array Value × TypeId)} {b : Nat → Nat} (h : St w0 W L) (hc : Cls W w') : ∀ (F : List Fact), (F.map (·.1)).Nodup → (∀ x ∈ F, W.heap.size ≤ b x.1 ∧ Go.Proofs.Ytkfggilildiflab.blk w' (b x.1) = some (.cells x.2.1 x.2.2 (0, 0))) →
    (∀ x ∈ F, ∀ y ∈ F, x.1 ≠ y.1 → b x.1 ≠ b y.1) → St w0 w' (F.map (fun x => (b x.1, x.2.1, x.2.2)) ++ L)
  | [], _, _, _ => h.cls hc
  | f :: F, hd, hF, hN => by
    simp only [List.map_cons, List.nodup_cons] at hd
    have h1 := St.news h hc F hd.2 (fun x hx => hF x (List.mem_cons_of_mem _ hx)) (fun x hx y hy => hN x (List.mem_cons_of_mem _ hx) y (List.mem_cons_of_mem _ hy))
    have hf := hF f (List.mem_cons_self ..)
    refine ⟨h1.1, fun x hx => ?_, ?_⟩
    · rcases List.mem_cons.1 hx with rfl | hx
      · exact ⟨Nat.le_trans h.1.size hf.1, hf.2⟩
      · exact h1.2.1 x hx
    · simp only [List.map_cons, List.cons_append, List.nodup_cons]
      refine ⟨fun hm => ?_, h1.2.2⟩
      rw [List.map_append, List.mem_append] at hm
      rcases hm with hm | hm
      · simp only [List.map_map, List.mem_map, Function.comp] at hm
        obtain ⟨y, hy, he⟩ := hm
        by_cases h2 : y.1 = f.1
        · exact hd.1 (List.mem_map.2 ⟨y, hy, h2⟩)
        · exact hN y (List.mem_cons_of_mem _ hy) f (List.mem_cons_self ..) h2 he
      · obtain ⟨y, hy, he⟩ := List.mem_map.1 hm
        have := blk_lt (h.2.1 y hy).2
        omega
end Go.Proofs.Ytkfggilildiflab

namespace Go.Proofs.Ytkfggilildiflab
open Go.ChangeShapes Go.WideShapes Go.ChangeAt Go.RowKit
/-- Columns done one by one: so many are done. -/
def colsN (M : List UInt8 → List UInt8) (l : List UInt8) : Nat → List UInt8
  | 0 => l
  | k + 1 => (colsN M l k).take (4 * k) ++ (M (((colsN M l k).drop (4 * k)).take 4) ++ (colsN M l k).drop (4 * k + 4))
theorem colsN_zero (M : List UInt8 → List UInt8) (l : List UInt8) : colsN M l 0 = l := rfl
theorem colsN_succ (M : List UInt8 → List UInt8) (l : List UInt8) (k : Nat) : colsN M l (k + 1) = (colsN M l k).take (4 * k) ++ (M (((colsN M l k).drop (4 * k)).take 4) ++ (colsN M l k).drop (4 * k + 4)) := rfl
theorem colsN_len {M : List UInt8 → List UInt8} (hM : ∀ l, (M l).length = 4) {l : List UInt8} (hl : l.length = 16) : ∀ k, k ≤ 4 → (colsN M l k).length = 16
  | 0, _ => hl
  | k + 1, hk => by
    have := colsN_len hM hl k (by omega)
    rw [colsN_succ]
    simp [hM, this]
    omega
theorem cut_mid (l : List UInt8) (k : Nat) (hl : l.length = 16) : cut (bvs l) (4 * k) 4 = bvs ((l.drop (4 * k)).take 4) := by
  unfold cut
  rw [if_neg (by rw [csz_bvs, hl]; omega)]
  unfold bvs
  simp
theorem cols_set (M : List UInt8 → List UInt8) (l : List UInt8) (k : Nat) (col : List UInt8) (h : ((colsN M l k).drop (4 * k)).take 4 = col) :
    ((bvs (colsN M l k)).toList.take (4 * k) ++ ((M col).map bv ++ (bvs (colsN M l k)).toList.drop (4 * k + 4))).toArray = bvs (colsN M l (k + 1)) := by
  rw [colsN_succ, h]
  unfold bvs
  simp
attribute [irreducible] colsN
theorem copy_len {c : List UInt8} (hc : c.length = 4) (k : Nat) (hk : k < 4) : (c.map bv).length = Nat.min 4 (16 - 4 * k) := by
  rw [List.length_map, hc]
  show 4 = min 4 (16 - 4 * k)
  omega
theorem copy_one {c : List UInt8} : ∀ v ∈ c.map bv, v.oneCell' = true := fun v hv => by
  obtain ⟨b, _, rfl⟩ := List.mem_map.1 hv
  rfl
theorem csz_eq (cs : Array Value) : csz cs = cs.size := by unfold csz; rfl
theorem add_zero_at (b j : Nat) : (⟨b, 0, none⟩ : Addr).add j = ⟨b, j, none⟩ := by
  unfold Addr.add
  split <;> simp_all

@[go_sem] theorem run_arrayAt_word (a : Option Addr) (len cap : Nat) (h : 4 ≤ len) (w : World) : (Instr.arrayAt 164 (.slice a len cap)).run Try.prog w = .ok (.pointer a) w :=
  run_arrayAt (P := Try.prog) w 164 _ 4 a len cap Try.underlying164 h

set_option maxRecDepth 100000 in
set_option maxHeartbeats 2000000 in
theorem columnsMix_any (l : List UInt8) (hl : l.length = 16) (w : World) :
    Calls Try.prog 102 #[.agg (bvs l), .func (.func 103) #[] #[]] w fun e w' => e = .returned (.agg (bvs (colsN (fun l => byPart l [2, 3, 1, 1] 16) l 4))) ∧ Below w.heap.size w w' := by
  obtain ⟨M, hM⟩ : ∃ M, M = fun l => byPart l [2, 3, 1, 1] 16 := ⟨_, rfl⟩
  rw [← hM]
  have cM : ∀ (l : List UInt8), l.length = 4 → ∀ w, Calls Try.prog 103 #[.agg (bvs l)] w fun e w' => e = .returned (.agg (bvs (M l))) ∧ Below w.heap.size w w' := fun l hl w => by rw [hM]; exact mix_any l hl w
  have lM : ∀ l, (M l).length = 4 := fun l => by rw [hM]; exact byPart_len _ _ _
  have hlen := hid (colsN_len lM hl)
  have LM := hid lM; have CM := hid cM; have H := hid hl
  have s0 : csz (bvs l) = 16 := by rw [csz_bvs, hl]
  clear lM cM hM hl
  have z := zs16
  go_enter Try.func102, Try.ntmps102
  go_wp2_with fail
  go_loopw [5, 6] (fun u5 u6 wr => ∃ k : Nat, k ≤ 4 ∧ u5 = .int .i64 (4 * (k : Int)) ∧ St w wr [(w.heap.size + 1, bvs (zs 16), 149), (w.heap.size, bvs (colsN M l k), 149)])
    (fun i _ _ => 16 - (intOf i).toNat)
  case atStart => exact ⟨0, by omega, rfl, by rw [colsN_zero]; exact (St.alloc' (St.alloc' (St.start w) (by first | rfl | simp)) (by first | rfl | simp))⟩
  case round =>
    obtain ⟨k, hk, rfl, hS⟩ := hrel
    have hc := cut_mid (colsN M l k) k (hlen.out k hk)
    have hs : csz (bvs (colsN M l k)) = 16 := by rw [csz_bvs, hlen.out k hk]
    by_cases hlt : k < 4
    · obtain ⟨i, hI⟩ : ∃ i : Int, i = 4 * (k : Int) := ⟨_, rfl⟩
      have f0 : 0 ≤ i := by omega
      have f1 : i < 16 := by omega
      have f2 : i + 4 ≤ 16 := by omega
      have f3 : i.toNat = 4 * k := by omega
      have f4 : (i + 4).toNat = 4 * k + 4 := by omega
      have f5 : ¬ 16 = 4 * k := by omega
      have f6 : i ≤ i + 4 := by omega
      rw [← hI]
      have HI := hid hI
      clear hI
      obtain ⟨kb1, kc1, kf1, kl1, kn1⟩ := hS.at 1 rfl
      go_wp2_with fail
      have hlc : (List.take 4 (List.drop (4 * k) (colsN M l k))).length = 4 := by
        have := hlen.out k hk
        simp [this]; omega
      have HS := hid (cols_set M l k _ rfl)
      generalize List.take 4 (List.drop (4 * k) (colsN M l k)) = col at *
      have f7 : i ≤ 16 := by omega
      refine (CM.out col hlc _).mono ?_
      rintro e w1 ⟨rfl, hb⟩
      have hS2 := hS.call hb
      have s1 : csz (bvs (M col)) = 4 := by rw [csz_bvs, LM.out]
      clear hS hb kb1 kc1 kf1 kl1 kn1
      go_wp2_with fail
      have hS3 := hS2.alloc (bvs (M col)) 164
      generalize hn1 : w1.heap.size = n1 at *
      generalize w1.alloc (.cells (bvs (M col)) 164) = W at *
      clear hn1 hS2
      refine region_mono_lit 3 (by kernel_rfl) (by kernel_rfl) ?_
      dsimp only [List.take, List.drop]
      repeat (first | (refine wpM_skip (fun _ => rfl) ?_; simp only [Act.put, List.setIfInBounds_toArray, List.set_cons_zero, List.set_cons_succ]) | (refine wpM_alloc rfl (fun _ => rfl) _ (by intro w; go_simp; rfl) ?_; simp only [Act.put, List.setIfInBounds_toArray, List.set_cons_zero, List.set_cons_succ]) | (refine wpM_slice' rfl (fun _ => rfl) (fun K hK => ?_); apply Exists.intro; apply Exists.intro; apply Exists.intro; apply Exists.intro; refine ⟨fun pB w' hw' hF => ?_, hK _ _ ?_⟩; (focus (have zS := hS3.cls hw'; obtain ⟨zb0, zc0, zf0, zl0, zn0⟩ := zS.at 0 rfl; obtain ⟨zb1, zc1, zf1, zl1, zn1⟩ := zS.at 1 rfl; obtain ⟨zb2, zc2, zf2, zl2, zn2⟩ := zS.at 2 rfl; clear zS; (first | (have yd := facts_of (hF.at (List.Mem.head _) (by decide +kernel)); obtain ⟨yb0, yc0, yf0, yl0⟩ := yd) | skip); (first | (have yd := facts_of (hF.at (List.Mem.tail _ (List.Mem.head _)) (by decide +kernel)); obtain ⟨yb1, yc1, yf1, yl1⟩ := yd) | skip); (first | (have yd := facts_of (hF.at (List.Mem.tail _ (List.Mem.tail _ (List.Mem.head _))) (by decide +kernel)); obtain ⟨yb2, yc2, yf2, yl2⟩ := yd) | skip); go_simp; (first | done | rfl | exact ⟨⟨rfl, rfl⟩, rfl⟩ | (refine ⟨?_, ?_⟩ <;> rfl) | (refine ⟨⟨?_, ?_⟩, ?_⟩ <;> rfl) | (refine ⟨⟨?_, ?_⟩, ⟨?_, ?_⟩⟩ <;> rfl)))); clear hK K; simp only [Act.put, List.setIfInBounds_toArray, List.set_cons_zero, List.set_cons_succ]) | (refine wpM_want (fun _ => rfl) (fun K hK => ?_); apply Exists.intro; refine ⟨fun pB w' hw' hF => ?_, hK _ _ ?_⟩; (focus (have zS := hS3.cls hw'; obtain ⟨zb0, zc0, zf0, zl0, zn0⟩ := zS.at 0 rfl; obtain ⟨zb1, zc1, zf1, zl1, zn1⟩ := zS.at 1 rfl; obtain ⟨zb2, zc2, zf2, zl2, zn2⟩ := zS.at 2 rfl; clear zS; (first | (have yd := facts_of (hF.at (List.Mem.head _) (by decide +kernel)); obtain ⟨yb0, yc0, yf0, yl0⟩ := yd) | skip); (first | (have yd := facts_of (hF.at (List.Mem.tail _ (List.Mem.head _)) (by decide +kernel)); obtain ⟨yb1, yc1, yf1, yl1⟩ := yd) | skip); (first | (have yd := facts_of (hF.at (List.Mem.tail _ (List.Mem.tail _ (List.Mem.head _))) (by decide +kernel)); obtain ⟨yb2, yc2, yf2, yl2⟩ := yd) | skip); go_simp; (try (go_bits; go_simp)); first | done | rfl | (first | fail))); clear hK K; simp only [Act.put, List.setIfInBounds_toArray, List.set_cons_zero, List.set_cons_succ]))
      refine wpM_nil ?_
      intro p w' hc hF hN
      have hS4 := hS3.cls hc
      clear hF hN hS3 hc
      dsimp only
      have hfull := hlen.out k hk
      have hM4 := LM.out col
      refine wpList_copy_own rfl (.tmp 20) (.tmp 21) 22 22 rfl 5 (by kernel_rfl) (by kernel_rfl) w.heap.size (4 * k) (16 - 4 * k) (16 - 4 * k) ⟨n1, 0, none⟩ 4 4 rfl rfl (bvs (colsN M l k)) 149 (hS4.blk 2 rfl) ((M col).map bv) (copy_len hM4 k hlt) (fun j v hj => ?_) (by rw [List.length_map, hM4, ← csz_eq, hs]; omega) copy_one ?_
      · have h1 := (hS4.at 0 rfl).2.1 j
        rw [add_zero_at, h1]
        unfold bvs
        simpa using hj
      · have h5 := hS4.setRow 2 rfl (bvs (colsN M l (k + 1)))
        rw [List.length_map, hM4, HS.out]
        generalize w'.setRow w.heap.size (bvs (colsN M l (k + 1))) = W5 at *
        have h6 : St w W5 [(w.heap.size + 1, bvs (zs 16), 149), (w.heap.size, bvs (colsN M l (k + 1)), 149)] := h5.tail
        clear h5 hS4 hfull hM4
        go_wp2
        go_roundw
        case rel => exact ⟨k + 1, by omega, by rw [HI.out]; go_num, h6⟩
        case measure => simp [intOf]; omega
    · obtain rfl : k = 4 := by omega
      clear hlt hk hc
      obtain ⟨kb0, kc0, kf0, kl0, kn0⟩ := hS.at 0 rfl; obtain ⟨kb1, kc1, kf1, kl1, kn1⟩ := hS.at 1 rfl
      go_wp2
      have h3 := hS.setRow 0 rfl (bvs (colsN M l 4))
      exact post_cell (n := 16) Try.results102 (by kernel_rfl) (.inl rfl) _ _ _ _ rfl rfl (h3.blk 0 rfl) hs ⟨rfl, h3.below⟩
end Go.Proofs.Ytkfggilildiflab

namespace Go.Proofs.Ytkfggilildiflab
open Go.ChangeShapes Go.WideShapes Go.ChangeAt Go.RowKit
set_option maxRecDepth 100000 in
set_option maxHeartbeats 2000000 in
theorem columnsUnmix_any (l : List UInt8) (hl : l.length = 16) (w : World) :
    Calls Try.prog 102 #[.agg (bvs l), .func (.func 109) #[] #[]] w fun e w' => e = .returned (.agg (bvs (colsN (fun l => byPart l [14, 11, 13, 9] 16) l 4))) ∧ Below w.heap.size w w' := by
  obtain ⟨M, hM⟩ : ∃ M, M = fun l => byPart l [14, 11, 13, 9] 16 := ⟨_, rfl⟩
  rw [← hM]
  have cM : ∀ (l : List UInt8), l.length = 4 → ∀ w, Calls Try.prog 109 #[.agg (bvs l)] w fun e w' => e = .returned (.agg (bvs (M l))) ∧ Below w.heap.size w w' := fun l hl w => by rw [hM]; exact unmix_any l hl w
  have lM : ∀ l, (M l).length = 4 := fun l => by rw [hM]; exact byPart_len _ _ _
  have hlen := hid (colsN_len lM hl)
  have LM := hid lM; have CM := hid cM; have H := hid hl
  have s0 : csz (bvs l) = 16 := by rw [csz_bvs, hl]
  clear lM cM hM hl
  have z := zs16
  go_enter Try.func102, Try.ntmps102
  go_wp2_with fail
  go_loopw [5, 6] (fun u5 u6 wr => ∃ k : Nat, k ≤ 4 ∧ u5 = .int .i64 (4 * (k : Int)) ∧ St w wr [(w.heap.size + 1, bvs (zs 16), 149), (w.heap.size, bvs (colsN M l k), 149)])
    (fun i _ _ => 16 - (intOf i).toNat)
  case atStart => exact ⟨0, by omega, rfl, by rw [colsN_zero]; exact (St.alloc' (St.alloc' (St.start w) (by first | rfl | simp)) (by first | rfl | simp))⟩
  case round =>
    obtain ⟨k, hk, rfl, hS⟩ := hrel
    have hc := cut_mid (colsN M l k) k (hlen.out k hk)
    have hs : csz (bvs (colsN M l k)) = 16 := by rw [csz_bvs, hlen.out k hk]
    by_cases hlt : k < 4
    · obtain ⟨i, hI⟩ : ∃ i : Int, i = 4 * (k : Int) := ⟨_, rfl⟩
      have f0 : 0 ≤ i := by omega
      have f1 : i < 16 := by omega
      have f2 : i + 4 ≤ 16 := by omega
      have f3 : i.toNat = 4 * k := by omega
      have f4 : (i + 4).toNat = 4 * k + 4 := by omega
      have f5 : ¬ 16 = 4 * k := by omega
      have f6 : i ≤ i + 4 := by omega
      rw [← hI]
      have HI := hid hI
      clear hI
      obtain ⟨kb1, kc1, kf1, kl1, kn1⟩ := hS.at 1 rfl
      go_wp2_with fail
      have hlc : (List.take 4 (List.drop (4 * k) (colsN M l k))).length = 4 := by
        have := hlen.out k hk
        simp [this]; omega
      have HS := hid (cols_set M l k _ rfl)
      generalize List.take 4 (List.drop (4 * k) (colsN M l k)) = col at *
      have f7 : i ≤ 16 := by omega
      refine (CM.out col hlc _).mono ?_
      rintro e w1 ⟨rfl, hb⟩
      have hS2 := hS.call hb
      have s1 : csz (bvs (M col)) = 4 := by rw [csz_bvs, LM.out]
      clear hS hb kb1 kc1 kf1 kl1 kn1
      go_wp2_with fail
      have hS3 := hS2.alloc (bvs (M col)) 164
      generalize hn1 : w1.heap.size = n1 at *
      generalize w1.alloc (.cells (bvs (M col)) 164) = W at *
      clear hn1 hS2
      refine region_mono_lit 3 (by kernel_rfl) (by kernel_rfl) ?_
      dsimp only [List.take, List.drop]
      repeat (first | (refine wpM_skip (fun _ => rfl) ?_; simp only [Act.put, List.setIfInBounds_toArray, List.set_cons_zero, List.set_cons_succ]) | (refine wpM_alloc rfl (fun _ => rfl) _ (by intro w; go_simp; rfl) ?_; simp only [Act.put, List.setIfInBounds_toArray, List.set_cons_zero, List.set_cons_succ]) | (refine wpM_slice' rfl (fun _ => rfl) (fun K hK => ?_); apply Exists.intro; apply Exists.intro; apply Exists.intro; apply Exists.intro; refine ⟨fun pB w' hw' hF => ?_, hK _ _ ?_⟩; (focus (have zS := hS3.cls hw'; obtain ⟨zb0, zc0, zf0, zl0, zn0⟩ := zS.at 0 rfl; obtain ⟨zb1, zc1, zf1, zl1, zn1⟩ := zS.at 1 rfl; obtain ⟨zb2, zc2, zf2, zl2, zn2⟩ := zS.at 2 rfl; clear zS; (first | (have yd := facts_of (hF.at (List.Mem.head _) (by decide +kernel)); obtain ⟨yb0, yc0, yf0, yl0⟩ := yd) | skip); (first | (have yd := facts_of (hF.at (List.Mem.tail _ (List.Mem.head _)) (by decide +kernel)); obtain ⟨yb1, yc1, yf1, yl1⟩ := yd) | skip); (first | (have yd := facts_of (hF.at (List.Mem.tail _ (List.Mem.tail _ (List.Mem.head _))) (by decide +kernel)); obtain ⟨yb2, yc2, yf2, yl2⟩ := yd) | skip); go_simp; (first | done | rfl | exact ⟨⟨rfl, rfl⟩, rfl⟩ | (refine ⟨?_, ?_⟩ <;> rfl) | (refine ⟨⟨?_, ?_⟩, ?_⟩ <;> rfl) | (refine ⟨⟨?_, ?_⟩, ⟨?_, ?_⟩⟩ <;> rfl)))); clear hK K; simp only [Act.put, List.setIfInBounds_toArray, List.set_cons_zero, List.set_cons_succ]) | (refine wpM_want (fun _ => rfl) (fun K hK => ?_); apply Exists.intro; refine ⟨fun pB w' hw' hF => ?_, hK _ _ ?_⟩; (focus (have zS := hS3.cls hw'; obtain ⟨zb0, zc0, zf0, zl0, zn0⟩ := zS.at 0 rfl; obtain ⟨zb1, zc1, zf1, zl1, zn1⟩ := zS.at 1 rfl; obtain ⟨zb2, zc2, zf2, zl2, zn2⟩ := zS.at 2 rfl; clear zS; (first | (have yd := facts_of (hF.at (List.Mem.head _) (by decide +kernel)); obtain ⟨yb0, yc0, yf0, yl0⟩ := yd) | skip); (first | (have yd := facts_of (hF.at (List.Mem.tail _ (List.Mem.head _)) (by decide +kernel)); obtain ⟨yb1, yc1, yf1, yl1⟩ := yd) | skip); (first | (have yd := facts_of (hF.at (List.Mem.tail _ (List.Mem.tail _ (List.Mem.head _))) (by decide +kernel)); obtain ⟨yb2, yc2, yf2, yl2⟩ := yd) | skip); go_simp; (try (go_bits; go_simp)); first | done | rfl | (first | fail))); clear hK K; simp only [Act.put, List.setIfInBounds_toArray, List.set_cons_zero, List.set_cons_succ]))
      refine wpM_nil ?_
      intro p w' hc hF hN
      have hS4 := hS3.cls hc
      clear hF hN hS3 hc
      dsimp only
      have hfull := hlen.out k hk
      have hM4 := LM.out col
      refine wpList_copy_own rfl (.tmp 20) (.tmp 21) 22 22 rfl 5 (by kernel_rfl) (by kernel_rfl) w.heap.size (4 * k) (16 - 4 * k) (16 - 4 * k) ⟨n1, 0, none⟩ 4 4 rfl rfl (bvs (colsN M l k)) 149 (hS4.blk 2 rfl) ((M col).map bv) (copy_len hM4 k hlt) (fun j v hj => ?_) (by rw [List.length_map, hM4, ← csz_eq, hs]; omega) copy_one ?_
      · have h1 := (hS4.at 0 rfl).2.1 j
        rw [add_zero_at, h1]
        unfold bvs
        simpa using hj
      · have h5 := hS4.setRow 2 rfl (bvs (colsN M l (k + 1)))
        rw [List.length_map, hM4, HS.out]
        generalize w'.setRow w.heap.size (bvs (colsN M l (k + 1))) = W5 at *
        have h6 : St w W5 [(w.heap.size + 1, bvs (zs 16), 149), (w.heap.size, bvs (colsN M l (k + 1)), 149)] := h5.tail
        clear h5 hS4 hfull hM4
        go_wp2
        go_roundw
        case rel => exact ⟨k + 1, by omega, by rw [HI.out]; go_num, h6⟩
        case measure => simp [intOf]; omega
    · obtain rfl : k = 4 := by omega
      clear hlt hk hc
      obtain ⟨kb0, kc0, kf0, kl0, kn0⟩ := hS.at 0 rfl; obtain ⟨kb1, kc1, kf1, kl1, kn1⟩ := hS.at 1 rfl
      go_wp2
      have h3 := hS.setRow 0 rfl (bvs (colsN M l 4))
      exact post_cell (n := 16) Try.results102 (by kernel_rfl) (.inl rfl) _ _ _ _ rfl rfl (h3.blk 0 rfl) hs ⟨rfl, h3.below⟩
end Go.Proofs.Ytkfggilildiflab

namespace Go.Proofs.Ytkfggilildiflab
open Go.ChangeShapes Go.WideShapes Go.ChangeAt Go.RowKit

def exA : List UInt8 := [0xdb, 0x13, 0x53, 0x45]
def exB : List UInt8 := [0x8e, 0x4d, 0xa1, 0xbc]
attribute [irreducible] exA exB
attribute [local irreducible] refMix
theorem exA_lit : #[Value.int .u8 219, .int .u8 19, .int .u8 83, .int .u8 69] = bvs exA := by unfold exA; rfl
theorem exB_lit : #[Value.int .u8 142, .int .u8 77, .int .u8 161, .int .u8 188] = bvs exB := by unfold exB; rfl

end Go.Proofs.Ytkfggilildiflab

namespace Go.Proofs.Ytkfggilildiflab
open Go.ChangeShapes Go.WideShapes Go.ChangeAt Go.RowKit



set_option maxRecDepth 100000 in
set_option maxHeartbeats 400000 in
theorem shift_any (l : List UInt8) (hl : l.length = 16) (w : World) :
    Calls Try.prog 100 #[.agg (bvs l)] w fun e w' => e = .returned (.agg (bvs (shPart l 16))) ∧ Below w.heap.size w w' := by
  have H := hid hl; clear hl
  have z16 := zs16
  go_enter Try.func100, Try.ntmps100
  go_wp2
  go_loopw [4, 5] (fun u4 u5 wr => ∃ k : Nat, k ≤ 16 ∧ u5 = .int .i64 k ∧ wr = ((w.alloc (.cells (bvs l) 149)).alloc (.cells (bvs (zs 16)) 149)).alloc (.cells (bvs (shPart l k)) 149))
    (fun _ i _ => 16 - (intOf i).toNat)
  case atStart => exact ⟨0, by omega, rfl, by rw [shPart_zero]⟩
  case round =>
    obtain ⟨k, hk, rfl, rfl⟩ := hrel
    by_cases hlt : k < 16
    · have hx := bvs_get (l := l) (k := (k + 4 * (k % 4)) % 16) (by rw [H.out]; omega)
      have hy := bvs_get (l := shPart l k) (k := k) (by rw [shPart_len]; omega)
      generalize hX : l.getD ((k + 4 * (k % 4)) % 16) 0 = x at hx
      generalize (shPart l k).getD k 0 = y at hy
      have HX := hid hX; clear hX
      go_wp2
      go_roundw
      case rel => exact ⟨k + 1, by omega, by go_num, by rw [bvs_set, shPart_succ, HX.out]⟩
      case measure => simp [intOf]; omega
    · obtain rfl : k = 16 := by omega
      have hs : csz (bvs (shPart l 16)) = 16 := by rw [csz_bvs, shPart_len]
      clear hk hlt
      go_wp2
      refine post_cell (n := 16) Try.results100 (by kernel_rfl) (.inl rfl) _ (bvs (shPart l 16)) 149 (0, 0) rfl rfl (by simp [go_sem]) (hs) ⟨rfl, ?_⟩
      exact (by repeat (first | exact Below.refl _ _ | assumption | refine Below.alloc ?_ (by first | omega | (simp; done) | (simp; omega)) _ | refine Below.drew ?_ | refine Below.setCell ?_ (by first | omega | (simp; done) | (simp; omega)) _ | refine below_setRow' ?_ (by first | omega | (simp; done) | (simp; omega)) _ | refine below_drewN' ?_ _))

set_option maxRecDepth 100000 in
set_option maxHeartbeats 400000 in
theorem unshift_any (l : List UInt8) (hl : l.length = 16) (w : World) :
    Calls Try.prog 111 #[.agg (bvs l)] w fun e w' => e = .returned (.agg (bvs (unPart l 16))) ∧ Below w.heap.size w w' := by
  have H := hid hl
  have hs0 : csz (bvs l) = 16 := by rw [csz_bvs, hl]
  clear hl
  have z16 := zs16
  go_enter Try.func111, Try.ntmps111
  go_wp2
  go_loopw [4, 5, 7] (fun u4 u5 u7 wr => ∃ k : Nat, k ≤ 16 ∧ u7 = .int .i64 k ∧ wr = ((w.alloc (.cells (bvs l) 149)).alloc (.cells (bvs (zs 16)) 149)).alloc (.cells (bvs (unPart l k)) 149))
    (fun _ _ i _ => 16 - (intOf i).toNat)
  case atStart => exact ⟨0, by omega, rfl, by rw [unPart_zero]⟩
  case round =>
    obtain ⟨k, hk, rfl, rfl⟩ := hrel
    by_cases hlt : k < 16
    · have hx := bvs_get (l := l) (k := k) (by rw [H.out]; omega)
      have hy := bvs_get (l := unPart l k) (k := (k + 4 * (k % 4)) % 16) (by rw [unPart_len]; omega)
      generalize hX : l.getD k 0 = x at hx
      generalize (unPart l k).getD ((k + 4 * (k % 4)) % 16) 0 = y at hy
      have HX := hid hX; clear hX
      go_wp2
      go_roundw
      case rel => exact ⟨k + 1, by omega, by go_num, by rw [bvs_set, unPart_succ, HX.out]⟩
      case measure => simp [intOf]; omega
    · obtain rfl : k = 16 := by omega
      have hs : csz (bvs (unPart l 16)) = 16 := by rw [csz_bvs, unPart_len]
      clear hk hlt
      go_wp2
      refine post_cell (n := 16) Try.results111 (by kernel_rfl) (.inl rfl) _ (bvs (unPart l 16)) 149 (0, 0) rfl rfl (by simp [go_sem]) (hs) ⟨rfl, ?_⟩
      exact (by repeat (first | exact Below.refl _ _ | assumption | refine Below.alloc ?_ (by first | omega | (simp; done) | (simp; omega)) _ | refine Below.drew ?_ | refine Below.setCell ?_ (by first | omega | (simp; done) | (simp; omega)) _ | refine below_setRow' ?_ (by first | omega | (simp; done) | (simp; omega)) _ | refine below_drewN' ?_ _))
end Go.Proofs.Ytkfggilildiflab

namespace Go.Proofs.Ytkfggilildiflab
open Go.ChangeShapes Go.WideShapes Go.ChangeAt Go.RowKit


set_option maxRecDepth 100000 in
set_option maxHeartbeats 400000 in
theorem table_any (l : List UInt8) (hl : l.length = 16) (w : World) :
    Calls Try.prog 131 #[.agg (bvs l)] w fun e w' => e = .returned (.agg (bvs (tabPart l 16))) ∧ Below w.heap.size w w' := by
  have H := hid hl; clear hl
  have z16 := zs16
  go_enter Try.func131, Try.ntmps131
  go_wp2
  go_loopw [4] (fun u4 wr => ∃ k n : Nat, k ≤ 16 ∧ u4 = .int .i64 k ∧ wr = (((w.alloc (.cells (bvs l) 149)).alloc (.cells (bvs (zs 16)) 194)).alloc (.cells (bvs (tabPart l k)) 194)).drewN n)
    (fun i _ => 16 - (intOf i).toNat)
  case atStart => exact ⟨0, 0, by omega, rfl, by rw [tabPart_zero]; rfl⟩
  case round =>
    obtain ⟨k, n, hk, rfl, rfl⟩ := hrel
    by_cases hlt : k < 16
    · have hx := bvs_get (l := l) (k := k) (by rw [H.out]; omega)
      have hy := bvs_get (l := tabPart l k) (k := k % 4 * 4 + k / 4) (by rw [tabPart_len]; omega)
      generalize hX : l.getD k 0 = x at hx
      generalize (tabPart l k).getD (k % 4 * 4 + k / 4) 0 = y at hy
      have HX := hid hX; clear hX
      go_wp2
      go_region
      go_wp2
      go_roundw
      case rel => exact ⟨k + 1, _, by omega, by go_num, by rw [bvs_set, tabPart_succ, HX.out]⟩
      case measure => simp [intOf]; omega
    · obtain rfl : k = 16 := by omega
      have hs : csz (bvs (tabPart l 16)) = 16 := by rw [csz_bvs, tabPart_len]
      clear hk hlt
      go_wp2
      refine post_cell (n := 16) Try.results131 (by kernel_rfl) (.inl rfl) _ (bvs (tabPart l 16)) 194 (0, 0) rfl rfl (by simp [go_sem]) (hs) ⟨rfl, ?_⟩
      exact (by repeat (first | exact Below.refl _ _ | assumption | refine Below.alloc ?_ (by first | omega | (simp; done) | (simp; omega)) _ | refine Below.drew ?_ | refine Below.setCell ?_ (by first | omega | (simp; done) | (simp; omega)) _ | refine below_setRow' ?_ (by first | omega | (simp; done) | (simp; omega)) _ | refine below_drewN' ?_ _))


set_option maxRecDepth 100000 in
set_option maxHeartbeats 400000 in
theorem block_any (l : List UInt8) (hl : l.length = 16) (w : World) :
    Calls Try.prog 132 #[.agg (bvs l)] w fun e w' => e = .returned (.agg (bvs (untPart l 16))) ∧ Below w.heap.size w w' := by
  have H := hid hl; clear hl
  have z16 := zs16
  go_enter Try.func132, Try.ntmps132
  go_wp2
  go_loopw [4] (fun u4 wr => ∃ k n : Nat, k ≤ 16 ∧ u4 = .int .i64 k ∧ wr = (((w.alloc (.cells (bvs l) 194)).alloc (.cells (bvs (zs 16)) 149)).alloc (.cells (bvs (untPart l k)) 149)).drewN n)
    (fun i _ => 16 - (intOf i).toNat)
  case atStart => exact ⟨0, 0, by omega, rfl, by rw [untPart_zero]; rfl⟩
  case round =>
    obtain ⟨k, n, hk, rfl, rfl⟩ := hrel
    by_cases hlt : k < 16
    · have hx := bvs_get (l := l) (k := k % 4 * 4 + k / 4) (by rw [H.out]; omega)
      have hy := bvs_get (l := untPart l k) (k := k) (by rw [untPart_len]; omega)
      generalize hX : l.getD (k % 4 * 4 + k / 4) 0 = x at hx
      generalize (untPart l k).getD k 0 = y at hy
      have HX := hid hX; clear hX
      go_wp2
      try go_region
      go_wp2
      go_roundw
      case rel => exact ⟨k + 1, _, by omega, by go_num, by rw [bvs_set, untPart_succ, HX.out]⟩
      case measure => simp [intOf]; omega
    · obtain rfl : k = 16 := by omega
      have hs : csz (bvs (untPart l 16)) = 16 := by rw [csz_bvs, untPart_len]
      clear hk hlt
      go_wp2
      refine post_cell (n := 16) Try.results132 (by kernel_rfl) (.inl rfl) _ (bvs (untPart l 16)) 149 (0, 0) rfl rfl (by simp [go_sem]) (hs) ⟨rfl, ?_⟩
      exact (by repeat (first | exact Below.refl _ _ | assumption | refine Below.alloc ?_ (by first | omega | (simp; done) | (simp; omega)) _ | refine Below.drew ?_ | refine Below.setCell ?_ (by first | omega | (simp; done) | (simp; omega)) _ | refine below_setRow' ?_ (by first | omega | (simp; done) | (simp; omega)) _ | refine below_drewN' ?_ _))
end Go.Proofs.Ytkfggilildiflab

namespace Go.Proofs.Ytkfggilildiflab
open Go.ChangeShapes Go.WideShapes Go.ChangeAt Go.RowKit


set_option maxRecDepth 100000 in
set_option maxHeartbeats 400000 in
theorem refShift_any (l : List UInt8) (hl : l.length = 16) (w : World) :
    Calls Try.prog 107 #[.agg (bvs l)] w fun e w' => e = .returned (.agg (bvs (untPart (rsPart (tabPart l 16) 16) 16))) ∧ Below w.heap.size w w' := by
  have H := hid hl; clear hl
  have hT := hid (tabPart_len l 16)
  have hs0 : csz (bvs l) = 16 := by rw [csz_bvs, H.out]
  have hs1 : csz (bvs (tabPart l 16)) = 16 := by rw [csz_bvs, hT.out]
  have z16 := zs16
  go_enter Try.func107, Try.ntmps107
  go_wp2_with fail
  refine (table_any l H.out _).mono ?_
  rintro e w1 ⟨rfl, hb1⟩
  have hB1 : Below w.heap.size w w1 := chain (by repeat (first | exact Below.refl _ _ | assumption | refine Below.alloc ?_ (by first | omega | (simp; done) | (simp; omega)) _ | refine Below.drew ?_ | refine Below.setCell ?_ (by first | omega | (simp; done) | (simp; omega)) _ | refine below_setRow' ?_ (by first | omega | (simp; done) | (simp; omega)) _ | refine below_drewN' ?_ _)) (by first | omega | (simp; done) | (simp; omega)) hb1
  obtain ⟨k1, c1, f1, l1, n1⟩ := keep hb1 (w.heap.size + 1) (bvs (zs 16)) 149 (by simp [go_sem, *] <;> omega)
  clear hb1
  go_wp2_with fail
  go_loopw [5, 6] (fun u5 u6 wr => ∃ r n : Nat, r ≤ 4 ∧ u5 = .int .i64 r ∧ wr = ((w1.alloc (.cells (bvs (tabPart l 16)) 194)).alloc (.cells (bvs (rsPart (tabPart l 16) (4 * r))) 194)).drewN n)
    (fun i _ _ => 4 - (intOf i).toNat)
  case atStart => exact ⟨0, 0, by omega, rfl, by rw [rsPart_zero]; rfl⟩
  case round =>
    obtain ⟨r, n, hr, rfl, rfl⟩ := hrel
    by_cases hlt : r < 4
    · go_wp2_with fail
      go_loopw [6] (fun u6 wr => ∃ c n : Nat, c ≤ 4 ∧ u6 = .int .i64 c ∧ wr = ((w1.alloc (.cells (bvs (tabPart l 16)) 194)).alloc (.cells (bvs (rsPart (tabPart l 16) (4 * r + c))) 194)).drewN n)
        (fun i _ => 4 - (intOf i).toNat)
      case atStart => exact ⟨0, n, by omega, rfl, rfl⟩
      case round =>
        obtain ⟨c, m, hc, rfl, rfl⟩ := hrel
        by_cases hlt2 : c < 4
        · have hx := bvs_get (l := tabPart l 16) (k := r * 4 + (c + r) % 4) (by rw [hT.out]; omega)
          have hy := bvs_get (l := rsPart (tabPart l 16) (4 * r + c)) (k := r * 4 + c) (by rw [rsPart_len]; omega)
          generalize hX : (tabPart l 16).getD (r * 4 + (c + r) % 4) 0 = x at hx
          generalize (rsPart (tabPart l 16) (4 * r + c)).getD (r * 4 + c) 0 = y at hy
          have HX := hid hX; clear hX
          go_wp2
          go_region
          go_wp2
          go_roundw
          case rel => exact ⟨c + 1, _, by omega, by go_num, by rw [bvs_set, rsPart_succ (tabPart l 16) r c hlt2, HX.out]⟩
          case measure => simp [intOf]; omega
        · obtain rfl : c = 4 := by omega
          clear hc hlt2
          go_wp2
          go_roundw
          case rel => exact ⟨r + 1, m, by omega, by go_num, by rw [show 4 * (r + 1) = 4 * r + 4 by omega]⟩
          case measure => simp [intOf]; omega
    · obtain rfl : r = 4 := by omega
      have hl2 : (rsPart (tabPart l 16) 16).length = 16 := rsPart_len (tabPart l 16) 16
      have hs : csz (bvs (rsPart (tabPart l 16) 16)) = 16 := by rw [csz_bvs, hl2]
      have HL := hid hl2
      clear hr hlt hl2
      go_wp2_with fail
      refine (block_any (rsPart (tabPart l 16) 16) HL.out _).mono ?_
      rintro e w2 ⟨rfl, hb2⟩
      have hB2 : Below w.heap.size w w2 := chain (by repeat (first | exact Below.refl _ _ | assumption | refine Below.alloc ?_ (by first | omega | (simp; done) | (simp; omega)) _ | refine Below.drew ?_ | refine Below.setCell ?_ (by first | omega | (simp; done) | (simp; omega)) _ | refine below_setRow' ?_ (by first | omega | (simp; done) | (simp; omega)) _ | refine below_drewN' ?_ _)) (by first | omega | (simp; done) | (simp; omega)) hb2
      obtain ⟨k2, c2, f2, l2, n2⟩ := keep hb2 (w.heap.size + 1) (bvs (zs 16)) 149 (by simp [go_sem, *] <;> omega)
      have hs3 : csz (bvs (untPart (rsPart (tabPart l 16) 16) 16)) = 16 := by rw [csz_bvs, untPart_len]
      go_wp2
      refine post_cell (n := 16) Try.results107 (by kernel_rfl) (.inl rfl) _ _ _ _ rfl rfl (blk_setRow_same k2 _) hs3 ⟨rfl, ?_⟩
      exact (by repeat (first | exact Below.refl _ _ | assumption | refine Below.alloc ?_ (by first | omega | (simp; done) | (simp; omega)) _ | refine Below.drew ?_ | refine Below.setCell ?_ (by first | omega | (simp; done) | (simp; omega)) _ | refine below_setRow' ?_ (by first | omega | (simp; done) | (simp; omega)) _ | refine below_drewN' ?_ _))
end Go.Proofs.Ytkfggilildiflab

namespace Go.Proofs.Ytkfggilildiflab
open Go.ChangeShapes Go.WideShapes Go.ChangeAt Go.RowKit

/-- The sums, place by place: so many places are done. -/
def xorN (a b : List UInt8) : Nat → List UInt8
  | 0 => a
  | k + 1 => (xorN a b k).set k (a.getD k 0 ^^^ b.getD k 0)
theorem xorN_len (a b : List UInt8) (k : Nat) : (xorN a b k).length = a.length := by
  induction k with
  | zero => rfl
  | succ k ih => simp [xorN, ih]
theorem xorN_succ (a b : List UInt8) (k : Nat) : xorN a b (k + 1) = (xorN a b k).set k (a.getD k 0 ^^^ b.getD k 0) := rfl
theorem xorN_get (a b : List UInt8) (k : Nat) : ∀ j, k ≤ j → (xorN a b k).getD j 0 = a.getD j 0 := by
  induction k with
  | zero => intros; rfl
  | succ k ih =>
    intro j hj
    rw [xorN_succ]
    have := ih j (by omega)
    simp only [List.getD_eq_getElem?_getD] at this ⊢
    rw [List.getElem?_set_ne (by omega)]
    exact this
theorem xorN_is (a b : List UInt8) (h : a.length = b.length) : ∀ k, k ≤ a.length → xorN a b k = xorL (a.take k) (b.take k) ++ a.drop k := by
  intro k
  induction k with
  | zero => intro _; simp [xorN, xorL]
  | succ k ih =>
    intro hk
    have hka : k < a.length := by omega
    have hkb : k < b.length := by omega
    have hl : (xorL (a.take k) (b.take k)).length = k := by simp [xorL]; omega
    rw [xorN_succ, ih (by omega), List.set_append_right _ _ (by omega), hl, Nat.sub_self, List.drop_eq_getElem_cons hka, List.set_cons_zero]
    have e1 : a.take (k + 1) = a.take k ++ [a[k]] := by rw [List.take_succ_eq_append_getElem hka]
    have e2 : b.take (k + 1) = b.take k ++ [b[k]] := by rw [List.take_succ_eq_append_getElem hkb]
    rw [e1, e2]
    unfold xorL
    rw [List.zipWith_append (by simp; omega)]
    simp [hka, hkb]
theorem xorN_all (a b : List UInt8) (h : a.length = b.length) (n : Nat) (hn : a.length = n) : xorN a b n = xorL a b := by
  rw [xorN_is a b h n (by omega), List.take_of_length_le (by omega), List.take_of_length_le (by omega), List.drop_of_length_le (by omega), List.append_nil]
theorem xorL_len (a b : List UInt8) (n : Nat) (ha : a.length = n) (hb : b.length = n) : (xorL a b).length = n := by simp [xorL, ha, hb]

end Go.Proofs.Ytkfggilildiflab

namespace Go.Proofs.Ytkfggilildiflab
open Go.ChangeShapes Go.WideShapes Go.ChangeAt Go.RowKit
set_option maxRecDepth 100000 in
set_option maxHeartbeats 1000000 in
theorem xor_any (a b : List UInt8) (ha : a.length = 16) (hb : b.length = 16) (w : World) :
    Calls Try.prog 104 #[.agg (bvs a), .agg (bvs b)] w fun e w' => e = .returned (.agg (bvs (xorL a b))) ∧ Below w.heap.size w w' := by
  have HA := hid ha; have HB := hid hb
  have hfin := hid (xorN_all a b (by omega) 16 ha)
  have s0 : csz (bvs b) = 16 := by rw [csz_bvs, hb]
  clear ha hb
  have z := zs16
  go_enter Try.func104, Try.ntmps104
  go_wp2
  go_loopw [5, 6, 8] (fun u5 u6 u8 wr => ∃ k n : Nat, k ≤ 16 ∧ u8 = .int .i64 k ∧ wr = (((w.alloc (.cells (bvs (xorN a b k)) 149)).alloc (.cells (bvs b) 149)).alloc (.cells (bvs (zs 16)) 149)).drewN n)
    (fun _ _ i _ => 16 - (intOf i).toNat)
  case atStart => exact ⟨0, 0, by omega, rfl, rfl⟩
  case round =>
    obtain ⟨k, n, hk, rfl, rfl⟩ := hrel
    by_cases hlt : k < 16
    · have hx := bvs_get (l := xorN a b k) (k := k) (by rw [xorN_len, HA.out]; omega)
      rw [xorN_get a b k k (Nat.le_refl k)] at hx
      have hy := bvs_get (l := b) (k := k) (by rw [HB.out]; omega)
      generalize hX : a.getD k 0 = x at hx
      generalize hY : b.getD k 0 = y at hy
      have HX := hid hX; have HY := hid hY; clear hX hY
      go_wp2
      go_roundw
      case rel => exact ⟨k + 1, _, by omega, by go_num, by rw [xor_u8, bvs_set, xorN_succ, HX.out, HY.out]⟩
      case measure => simp [intOf]; omega
    · obtain rfl : k = 16 := by omega
      have hs : csz (bvs (xorN a b 16)) = 16 := by rw [csz_bvs, xorN_len, HA.out]
      clear hk hlt
      go_wp2
      refine post_cell (n := 16) Try.results104 (by kernel_rfl) (.inl rfl) _ (bvs (xorN a b 16)) 149 (0, 0) rfl rfl (by simp [go_sem]) hs ⟨by rw [hfin.out], ?_⟩
      exact (by repeat (first | exact Below.refl _ _ | assumption | refine Below.alloc ?_ (by first | omega | (simp; done) | (simp; omega)) _ | refine Below.drew ?_ | refine Below.setCell ?_ (by first | omega | (simp; done) | (simp; omega)) _ | refine below_setRow' ?_ (by first | omega | (simp; done) | (simp; omega)) _ | refine below_drewN' ?_ _))
end Go.Proofs.Ytkfggilildiflab

namespace Go.Proofs.Ytkfggilildiflab
open Go.ChangeShapes Go.WideShapes Go.ChangeAt Go.RowKit

/-- What all bytes are substituted by. -/
def sboxL : List UInt8 := [99, 124, 119, 123, 242, 107, 111, 197, 48, 1, 103, 43, 254, 215, 171, 118, 202, 130, 201, 125, 250, 89, 71, 240, 173, 212, 162, 175, 156, 164, 114, 192, 183, 253, 147, 38, 54, 63, 247, 204, 52, 165, 229, 241, 113, 216, 49, 21, 4, 199, 35, 195, 24, 150, 5, 154, 7, 18, 128, 226, 235, 39, 178, 117, 9, 131, 44, 26, 27, 110, 90, 160, 82, 59, 214, 179, 41, 227, 47, 132, 83, 209, 0, 237, 32, 252, 177, 91, 106, 203, 190, 57, 74, 76, 88, 207, 208, 239, 170, 251, 67, 77, 51, 133, 69, 249, 2, 127, 80, 60, 159, 168, 81, 163, 64, 143, 146, 157, 56, 245, 188, 182, 218, 33, 16, 255, 243, 210, 205, 12, 19, 236, 95, 151, 68, 23, 196, 167, 126, 61, 100, 93, 25, 115, 96, 129, 79, 220, 34, 42, 144, 136, 70, 238, 184, 20, 222, 94, 11, 219, 224, 50, 58, 10, 73, 6, 36, 92, 194, 211, 172, 98, 145, 149, 228, 121, 231, 200, 55, 109, 141, 213, 78, 169, 108, 86, 244, 234, 101, 122, 174, 8, 186, 120, 37, 46, 28, 166, 180, 198, 232, 221, 116, 31, 75, 189, 139, 138, 112, 62, 181, 102, 72, 3, 246, 14, 97, 53, 87, 185, 134, 193, 29, 158, 225, 248, 152, 17, 105, 217, 142, 148, 155, 30, 135, 233, 206, 85, 40, 223, 140, 161, 137, 13, 191, 230, 66, 104, 65, 153, 45, 15, 176, 84, 187, 22]
theorem sboxL_len : sboxL.length = 256 := by decide +kernel
def subB (b : UInt8) : UInt8 := sboxL.getD b.toNat 0

/-! ### The document's product keeps sums of its second number -/
theorem xor_mod2 (a b : Nat) : (a ^^^ b) % 2 = (a + b) % 2 := by
  have := tb_xor a b 0
  simpa [tb, Nat.add_mod] using this
theorem two_xor (x y b c : Nat) (hb : b < 2) (hc : c < 2) : (2 * x + b) ^^^ (2 * y + c) = 2 * (x ^^^ y) + (b + c) % 2 := by
  have h1 := Nat.div_add_mod ((2 * x + b) ^^^ (2 * y + c)) 2
  rw [Nat.xor_div_two, xor_mod2, show (2 * x + b) / 2 = x by omega, show (2 * y + c) / 2 = y by omega] at h1
  rw [← h1]; omega
theorem outN_xor (P Q m : Nat) : outN (P ^^^ Q) m = outN P m ^^^ outN Q m := by
  induction m with
  | zero => simp [outN]
  | succ m ih => simp only [outN_succ, ih, tb_xor]; rw [two_xor _ _ _ _ (tb_lt _ _) (tb_lt _ _)]
theorem bit_xor (x y i : Nat) : tb (x ^^^ y) i = (tb x i + tb y i) % 2 := tb_xor x y i
theorem scaled (a x y s : Nat) (ha : a < 2) (hx : x < 2) (hy : y < 2) : (a * ((x + y) % 2)) <<< s = ((a * x) <<< s) ^^^ ((a * y) <<< s) := by
  have ha : a = 0 ∨ a = 1 := by omega
  have hx : x = 0 ∨ x = 1 := by omega
  have hy : y = 0 ∨ y = 1 := by omega
  rcases ha with rfl | rfl <;> rcases hx with rfl | rfl <;> rcases hy with rfl | rfl <;> simp
theorem nx4 (a b c d : Nat) : (a ^^^ b) ^^^ (c ^^^ d) = (a ^^^ c) ^^^ (b ^^^ d) := by
  rw [Nat.xor_assoc, Nat.xor_assoc, ← Nat.xor_assoc b c d, Nat.xor_comm b c, Nat.xor_assoc c b d]
theorem mulP_xor (a b b' n : Nat) : mulP a (b ^^^ b') n = mulP a b n ^^^ mulP a b' n := by
  induction n with
  | zero => simp [mulP]
  | succ n ih => simp only [mulP]; rw [ih, tb_xor, scaled _ _ _ _ (tb_lt _ _) (tb_lt _ _) (tb_lt _ _), nx4]
def turn (i : Nat) : Nat := (((1 <<< i ^^^ 1 <<< (i - 8)) ^^^ 1 <<< (i - 7)) ^^^ 1 <<< (i - 5)) ^^^ 1 <<< (i - 4)
theorem red1_is (P i : Nat) : red1 P i = P ^^^ turn i := by simp only [red1, turn, Nat.xor_assoc]
theorem redN_xor (P Q m : Nat) : redN (P ^^^ Q) m = redN P m ^^^ redN Q m := by
  induction m with
  | zero => rfl
  | succ m ih =>
    simp only [redN, ih, tb_xor, red1_is]
    have h1 := tb_lt (redN P m) (14 - m)
    have h2 := tb_lt (redN Q m) (14 - m)
    generalize tb (redN P m) (14 - m) = x at *
    generalize tb (redN Q m) (14 - m) = y at *
    have hx : x = 0 ∨ x = 1 := by omega
    have hy : y = 0 ∨ y = 1 := by omega
    rcases hx with rfl | rfl <;> rcases hy with rfl | rfl <;> simp
    · rw [Nat.xor_assoc]
    · rw [Nat.xor_assoc, Nat.xor_assoc, Nat.xor_comm (redN Q m)]
    · rw [nx4, Nat.xor_self, Nat.xor_zero]
theorem refMulN_xor (a b b' : Nat) : refMulN a (b ^^^ b') = refMulN a b ^^^ refMulN a b' := by
  simp only [refMulN, mulP_xor, redN_xor, outN_xor]
theorem refMulN_zero (a : Nat) : refMulN a 0 = 0 := by
  have := refMulN_xor a 0 0
  simpa using this
/-- All products with numbers below a power of two. -/
def dbl (a : Nat) : Nat → List Nat
  | 0 => [0]
  | k + 1 => dbl a k ++ (dbl a k).map (fun x => refMulN a (2 ^ k) ^^^ x)
theorem dbl_is (a k : Nat) : dbl a k = (List.range (2 ^ k)).map (refMulN a) := by
  induction k with
  | zero => simp [dbl, refMulN_zero, List.range_succ]
  | succ k ih =>
    simp only [dbl, ih]
    rw [show 2 ^ (k + 1) = 2 ^ k + 2 ^ k by rw [Nat.pow_succ]; omega, List.range_add, List.map_append, List.map_map, List.map_map]
    congr 1
    refine List.map_congr_left fun j hj => ?_
    have hj : j < 2 ^ k := List.mem_range.1 hj
    show refMulN a (2 ^ k) ^^^ refMulN a j = refMulN a (2 ^ k + j)
    rw [← refMulN_xor]
    congr 1
    have h1 := Nat.two_pow_add_eq_or_of_lt hj 1
    rw [Nat.mul_one] at h1
    rw [h1]
    apply Nat.eq_of_testBit_eq
    intro i
    rw [Nat.testBit_xor, Nat.testBit_or, Nat.testBit_two_pow]
    by_cases hi : k = i
    · subst hi; rw [Nat.testBit_lt_two_pow hj]; simp
    · simp [hi]
/-- The first number whose product is 1; none: nought. -/
def invN (a : Nat) : Nat := let i := (dbl a 8).findIdx (· == 1); if i < 256 then i else 0
theorem invN_of (a r : Nat) (hr : r < 256) (h1 : refMulN a r = 1) (h0 : ∀ j, j < r → refMulN a j ≠ 1) : invN a = r := by
  unfold invN
  have e : (dbl a 8).findIdx (· == 1) = r := by
    rw [dbl_is, List.findIdx_eq (by simpa using hr)]
    refine ⟨by simpa using h1, fun j hj => ?_⟩
    simpa using h0 j hj
  simp only [e, if_pos hr]
theorem invN_none (a : Nat) (h0 : ∀ j, j < 256 → refMulN a j ≠ 1) : invN a = 0 := by
  unfold invN
  have e : (dbl a 8).findIdx (· == 1) = 256 := by
    have : (dbl a 8).findIdx (· == 1) = (dbl a 8).length := by
      rw [List.findIdx_eq_length, dbl_is]
      intro x hx
      obtain ⟨j, hj, rfl⟩ := List.mem_map.1 hx
      simpa using h0 j (List.mem_range.1 hj)
    rw [this, dbl_is]; simp
  simp [e]
theorem invN_lt (a : Nat) : invN a < 256 := by unfold invN; simp only; split <;> omega
/-- The document's substitution, bit by bit: so many rounds. -/
def subN (v : Nat) : Nat → Nat
  | 0 => 0
  | m + 1 => (subN v m * 2 + (tb v (7 - m) + tb v ((7 - m + 4) % 8) + tb v ((7 - m + 5) % 8) + tb v ((7 - m + 6) % 8) + tb v ((7 - m + 7) % 8) + tb 99 (7 - m)) % 2) % 256
theorem subN_succ (v m : Nat) : subN v (m + 1) = (subN v m * 2 + (tb v (7 - m) + tb v ((7 - m + 4) % 8) + tb v ((7 - m + 5) % 8) + tb v ((7 - m + 6) % 8) + tb v ((7 - m + 7) % 8) + tb 99 (7 - m)) % 2) % 256 := rfl
theorem subN_lt (v m : Nat) : subN v m < 256 := by cases m with
  | zero => exact Nat.zero_lt_of_lt (show 0 < 256 by decide)
  | succ m => exact Nat.mod_lt _ (by decide)
theorem sub_all : ∀ n : Fin 256, subN (invN n) 8 = (sboxL.getD n 0).toNat := by decide +kernel
theorem sub_is (b : UInt8) : subN (invN b.toNat) 8 = (subB b).toNat := sub_all ⟨b.toNat, b.toNat_lt⟩
end Go.Proofs.Ytkfggilildiflab

namespace Go.Proofs.Ytkfggilildiflab
open Go.ChangeShapes Go.WideShapes Go.ChangeAt Go.RowKit
attribute [local irreducible] sboxL invN refMulN subN tb

theorem wpList_build' {P : Program} {ops : Array Oper} {rest : List Oper} {o : Oper} {a : Act} {w : World} {Q : Exit → Act → World → Prop} (hg : o.guard = none) (t : TypeId) (parts : Array (Nat × Operand)) (ho : o.op = .build t parts)
    (v : Array Value) (hf : P.built t (parts.map fun (i, x) => (i, a.eval x)).toList = some v) (h : wpList P ops Q rest (a.put o.dst (.agg v)) w) : wpList P ops Q (o :: rest) a w :=
  wpList_build hg t parts ho (by rw [hf]; rfl) (by rw [hf]; exact h)

set_option maxRecDepth 100000 in
set_option maxHeartbeats 1000000 in
theorem subs_any (w : World) : Calls Try.prog 143 #[] w fun e w' => e = .returned (.agg (bvs sboxL)) ∧ Below w.heap.size w w' := by
  have s0 : csz (bvs sboxL) = 256 := by rw [csz_bvs, sboxL_len]
  have s1 : csz Try.zeroCells170 = 256 := by kernel_rfl
  go_enter Try.func143, Try.ntmps143
  go_wp2_with (refine wpList_build' rfl 170 _ rfl (bvs sboxL) (by unfold sboxL; kernel_rfl) ?_)
  exact post_cell (n := 256) Try.results143 (by kernel_rfl) (.inl rfl) _ (bvs sboxL) 170 (0, 0) rfl rfl (by simp [go_sem]) s0 ⟨rfl, (by repeat (first | exact Below.refl _ _ | assumption | refine Below.alloc ?_ (by first | omega | (simp; done) | (simp; omega)) _ | refine Below.drew ?_ | refine Below.setCell ?_ (by first | omega | (simp; done) | (simp; omega)) _ | refine below_setRow' ?_ (by first | omega | (simp; done) | (simp; omega)) _ | refine below_drewN' ?_ _))⟩

set_option maxRecDepth 100000 in
set_option maxHeartbeats 1000000 in
theorem table2_any (w : World) : Calls Try.prog 105 #[] w fun e w' => e = .returned (.agg (bvs sboxL)) ∧ Below w.heap.size w w' := by
  have s0 : csz (bvs sboxL) = 256 := by rw [csz_bvs, sboxL_len]
  have s1 : csz Try.zeroCells170 = 256 := by kernel_rfl
  go_enter Try.func105, Try.ntmps105
  go_wp2_with (refine wpList_build' rfl 170 _ rfl (bvs sboxL) (by unfold sboxL; kernel_rfl) ?_)
  exact post_cell (n := 256) Try.results105 (by kernel_rfl) (.inl rfl) _ (bvs sboxL) 170 (0, 0) rfl rfl (by simp [go_sem]) s0 ⟨rfl, (by repeat (first | exact Below.refl _ _ | assumption | refine Below.alloc ?_ (by first | omega | (simp; done) | (simp; omega)) _ | refine Below.drew ?_ | refine Below.setCell ?_ (by first | omega | (simp; done) | (simp; omega)) _ | refine below_setRow' ?_ (by first | omega | (simp; done) | (simp; omega)) _ | refine below_drewN' ?_ _))⟩

theorem sboxL_get (b : UInt8) : (bvs sboxL)[b.toNat]? = some (.int .u8 ((subB b).toNat : Int)) := bvs_get (by rw [sboxL_len]; exact b.toNat_lt)

set_option maxHeartbeats 400000 in
theorem sub_any (b : UInt8) (w : World) : Calls Try.prog 127 #[.int .u8 b.toNat] w fun e w' => e = .returned (.int .u8 (subB b).toNat) ∧ Below w.heap.size w w' := by
  have h0 := u8_ofInt b
  have h1 : (0 : Int) ≤ (b.toNat : Int) := by omega
  have hx := sboxL_get b
  go_enter Try.func127, Try.ntmps127
  go_wp2_with fail
  refine (subs_any _).mono ?_
  rintro e w1 ⟨rfl, hb⟩
  go_wp2
  go_ret
  exact ⟨rfl, hb⟩

/-! ### The document's answer -/
theorem refMulN_any (a : UInt8) (k : Nat) (hk : k < 256) (w : World) :
    Calls Try.prog 130 #[.int .u8 a.toNat, .int .u8 k] w fun e w' => e = .returned (.int .u8 (refMulN a.toNat k)) ∧ Below w.heap.size w w' := by
  have e : (UInt8.ofNat k).toNat = k := by simp; omega
  have := refMul_any a (UInt8.ofNat k) w
  rwa [e] at this

/-- No number below has the product 1. -/
def NoOne (b : UInt8) (k : Nat) : Prop := ∀ j, j < k → refMulN b.toNat j ≠ 1
theorem NoOne.next {b : UInt8} {k : Nat} (h : NoOne b k) (hk : refMulN b.toNat k ≠ 1) : NoOne b (k + 1) := fun j hj => by
  rcases Nat.lt_or_ge j k with h1 | h1
  · exact h j h1
  · obtain rfl : j = k := by omega
    exact hk

end Go.Proofs.Ytkfggilildiflab

namespace Go.Proofs.Ytkfggilildiflab
open Go.ChangeShapes Go.WideShapes Go.ChangeAt Go.RowKit
/-- A function done place by place: so many places are done. -/
def mapN (f : UInt8 → UInt8) (l : List UInt8) : Nat → List UInt8
  | 0 => l
  | k + 1 => (mapN f l k).set k (f (l.getD k 0))
theorem mapN_len (f : UInt8 → UInt8) (l : List UInt8) (k : Nat) : (mapN f l k).length = l.length := by
  induction k with
  | zero => rfl
  | succ k ih => simp [mapN, ih]
theorem mapN_zero (f : UInt8 → UInt8) (l : List UInt8) : mapN f l 0 = l := rfl
theorem mapN_succ (f : UInt8 → UInt8) (l : List UInt8) (k : Nat) : mapN f l (k + 1) = (mapN f l k).set k (f (l.getD k 0)) := rfl
theorem mapN_is (f : UInt8 → UInt8) (l : List UInt8) : ∀ k, k ≤ l.length → mapN f l k = (l.take k).map f ++ l.drop k := by
  intro k
  induction k with
  | zero => intro _; simp [mapN]
  | succ k ih =>
    intro hk
    have hkl : k < l.length := by omega
    have e : k - (List.map f (l.take k)).length = 0 := by simp; omega
    rw [mapN_succ, ih (by omega), List.set_append_right _ _ (by simp; omega), e, List.drop_eq_getElem_cons hkl, List.set_cons_zero, List.take_succ_eq_append_getElem hkl, List.map_append, List.append_assoc]
    simp [hkl]
theorem mapN_all (f : UInt8 → UInt8) (l : List UInt8) (n : Nat) (hn : l.length = n) : mapN f l n = l.map f := by
  rw [mapN_is f l n (by omega), List.take_of_length_le (by omega), List.drop_of_length_le (by omega), List.append_nil]
attribute [local irreducible] sboxL subB mapN

set_option maxRecDepth 100000 in
set_option maxHeartbeats 1000000 in
theorem subAll_any (l : List UInt8) (hl : l.length = 16) (w : World) : Calls Try.prog 101 #[.agg (bvs l)] w fun e w' => e = .returned (.agg (bvs (l.map subB))) ∧ Below w.heap.size w w' := by
  have H := hid hl
  have hfin := hid (mapN_all subB l 16 hl)
  have s0 : csz (bvs l) = 16 := by rw [csz_bvs, hl]
  clear hl
  have z := zs16
  go_enter Try.func101, Try.ntmps101
  go_wp2_with fail
  go_loopw [3, 4, 6] (fun u3 u4 u6 wr => ∃ k : Nat, k ≤ 16 ∧ u6 = .int .i64 k ∧ St w wr [(w.heap.size + 1, bvs (zs 16), 149), (w.heap.size, bvs (mapN subB l k), 149)])
    (fun _ _ i _ => 16 - (intOf i).toNat)
  case atStart => exact ⟨0, by omega, rfl, by rw [mapN_zero]; exact (St.alloc' (St.alloc' (St.start w) (by first | rfl | simp)) (by first | rfl | simp))⟩
  case round =>
    obtain ⟨k, hk, rfl, hS⟩ := hrel
    by_cases hlt : k < 16
    · have hx := bvs_get (l := l) (k := k) (by rw [H.out]; omega)
      have hy := bvs_get (l := mapN subB l k) (k := k) (by rw [mapN_len, H.out]; omega)
      generalize hX : l.getD k 0 = x at hx
      generalize (mapN subB l k).getD k 0 = y at hy
      have HX := hid hX; clear hX
      go_wp2_with fail
      refine (sub_any x _).mono ?_
      rintro e w1 ⟨rfl, hb⟩
      have hS2 := hS.call hb
      clear hS hb
      obtain ⟨kb1, kc1, kf1, kl1, kn1⟩ := hS2.at 1 rfl
      go_wp2
      go_roundw
      case rel =>
        refine ⟨k + 1, by omega, by go_num, ?_⟩
        have h3 := hS2.setCell 1 rfl k (.int .u8 ((subB x).toNat : Int))
        rw [bvs_set, show (mapN subB l k).set k (subB x) = mapN subB l (k + 1) by rw [mapN_succ, HX.out]] at h3
        exact h3
      case measure => simp [intOf]; omega
    · obtain rfl : k = 16 := by omega
      have hs : csz (bvs (mapN subB l 16)) = 16 := by rw [csz_bvs, mapN_len, H.out]
      clear hk hlt
      obtain ⟨kb0, kc0, kf0, kl0, kn0⟩ := hS.at 0 rfl; obtain ⟨kb1, kc1, kf1, kl1, kn1⟩ := hS.at 1 rfl
      go_wp2
      have h3 := hS.setRow 0 rfl (bvs (mapN subB l 16))
      exact post_cell (n := 16) Try.results101 (by kernel_rfl) (.inl rfl) _ _ _ _ rfl rfl (h3.blk 0 rfl) hs ⟨by rw [hfin.out], h3.below⟩

set_option maxRecDepth 100000 in
set_option maxHeartbeats 1000000 in
theorem subWord_any (l : List UInt8) (hl : l.length = 4) (w : World) : Calls Try.prog 96 #[.agg (bvs l)] w fun e w' => e = .returned (.agg (bvs (l.map subB))) ∧ Below w.heap.size w w' := by
  have H := hid hl
  have hfin := hid (mapN_all subB l 4 hl)
  have s0 : csz (bvs l) = 4 := by rw [csz_bvs, hl]
  clear hl
  have z := zs4
  go_enter Try.func96, Try.ntmps96
  go_wp2_with fail
  go_loopw [3, 4, 6] (fun u3 u4 u6 wr => ∃ k : Nat, k ≤ 4 ∧ u6 = .int .i64 k ∧ St w wr [(w.heap.size + 1, bvs (zs 4), 164), (w.heap.size, bvs (mapN subB l k), 164)])
    (fun _ _ i _ => 4 - (intOf i).toNat)
  case atStart => exact ⟨0, by omega, rfl, by rw [mapN_zero]; exact (St.alloc' (St.alloc' (St.start w) (by first | rfl | simp)) (by first | rfl | simp))⟩
  case round =>
    obtain ⟨k, hk, rfl, hS⟩ := hrel
    by_cases hlt : k < 4
    · have hx := bvs_get (l := l) (k := k) (by rw [H.out]; omega)
      have hy := bvs_get (l := mapN subB l k) (k := k) (by rw [mapN_len, H.out]; omega)
      generalize hX : l.getD k 0 = x at hx
      generalize (mapN subB l k).getD k 0 = y at hy
      have HX := hid hX; clear hX
      go_wp2_with fail
      refine (sub_any x _).mono ?_
      rintro e w1 ⟨rfl, hb⟩
      have hS2 := hS.call hb
      clear hS hb
      obtain ⟨kb1, kc1, kf1, kl1, kn1⟩ := hS2.at 1 rfl
      go_wp2
      go_roundw
      case rel =>
        refine ⟨k + 1, by omega, by go_num, ?_⟩
        have h3 := hS2.setCell 1 rfl k (.int .u8 ((subB x).toNat : Int))
        rw [bvs_set, show (mapN subB l k).set k (subB x) = mapN subB l (k + 1) by rw [mapN_succ, HX.out]] at h3
        exact h3
      case measure => simp [intOf]; omega
    · obtain rfl : k = 4 := by omega
      have hs : csz (bvs (mapN subB l 4)) = 4 := by rw [csz_bvs, mapN_len, H.out]
      clear hk hlt
      obtain ⟨kb0, kc0, kf0, kl0, kn0⟩ := hS.at 0 rfl; obtain ⟨kb1, kc1, kf1, kl1, kn1⟩ := hS.at 1 rfl
      go_wp2
      have h3 := hS.setRow 0 rfl (bvs (mapN subB l 4))
      exact post_cell (n := 4) Try.results96 (by kernel_rfl) (.inl rfl) _ _ _ _ rfl rfl (h3.blk 0 rfl) hs ⟨by rw [hfin.out], h3.below⟩

set_option maxRecDepth 100000 in
set_option maxHeartbeats 400000 in
theorem rotate_any (a b c d : UInt8) (w : World) : Calls Try.prog 97 #[.agg (bvs [a, b, c, d])] w fun e w' => e = .returned (.agg (bvs [b, c, d, a])) ∧ Below w.heap.size w w' := by
  have h0 : (bvs [a, b, c, d])[0]? = some (.int .u8 (a.toNat : Int)) := rfl
  have h1 : (bvs [a, b, c, d])[1]? = some (.int .u8 (b.toNat : Int)) := rfl
  have h2 : (bvs [a, b, c, d])[2]? = some (.int .u8 (c.toNat : Int)) := rfl
  have h3 : (bvs [a, b, c, d])[3]? = some (.int .u8 (d.toNat : Int)) := rfl
  go_enter Try.func97, Try.ntmps97
  go_wp2
  exact post_cell (n := 4) Try.results97 (by kernel_rfl) (.inl rfl) _ (bvs [b, c, d, a]) 164 (0, 0) rfl rfl (by simp [go_sem]; rfl) rfl ⟨rfl, (by repeat (first | exact Below.refl _ _ | assumption | refine Below.alloc ?_ (by first | omega | (simp; done) | (simp; omega)) _ | refine Below.drew ?_ | refine Below.setCell ?_ (by first | omega | (simp; done) | (simp; omega)) _ | refine below_setRow' ?_ (by first | omega | (simp; done) | (simp; omega)) _ | refine below_drewN' ?_ _))⟩
end Go.Proofs.Ytkfggilildiflab

namespace Go.Proofs.Ytkfggilildiflab
open Go.ChangeShapes Go.WideShapes Go.ChangeAt Go.RowKit

def backB (b : UInt8) : UInt8 := UInt8.ofNat (Lib.indexByte sboxL b).toNat
theorem back_all : ∀ n : Fin 256, Lib.indexByte sboxL (UInt8.ofNat n) = ((backB (UInt8.ofNat n)).toNat : Int) := by decide +kernel
theorem back_is (b : UInt8) : Lib.indexByte sboxL b = ((backB b).toNat : Int) := by simpa using back_all ⟨b.toNat, b.toNat_lt⟩
theorem turns_all : ∀ n : Fin 256, backB (subB (UInt8.ofNat n)) = UInt8.ofNat n ∧ subB (backB (UInt8.ofNat n)) = UInt8.ofNat n ∧ subB (UInt8.ofNat n) ≠ UInt8.ofNat n ∧ subB (UInt8.ofNat n) ≠ ~~~(UInt8.ofNat n) := by decide +kernel
theorem turns (b : UInt8) : backB (subB b) = b ∧ subB (backB b) = b ∧ subB b ≠ b ∧ subB b ≠ ~~~b := by simpa using turns_all ⟨b.toNat, b.toNat_lt⟩
end Go.Proofs.Ytkfggilildiflab

namespace Go.Proofs.Ytkfggilildiflab
open Go.ChangeShapes Go.WideShapes Go.ChangeAt Go.RowKit
attribute [local irreducible] sboxL subB backB mapN

set_option maxHeartbeats 1000000 in
set_option maxRecDepth 100000 in
theorem indexByte_any (l : List UInt8) (b o n c : Nat) (x : UInt8) (w : World) (hl : l.length = n) (hc : ∀ i, i < n → w.cell? ⟨b, o + i, none⟩ = some (.int .u8 ((l.getD i 0).toNat : Int))) :
    Calls Try.prog 147 #[.slice (some ⟨b, o, none⟩) n c, .int .u8 x.toNat] w fun e w' => e = .returned (.int .i64 (Lib.indexByte l x)) ∧ w = w' := by
  have hx : (l.map fun y : UInt8 => (y.toNat : Int)).length = n := by simpa using hl
  have hc' : ∀ i, i < n → w.cell? ⟨b, o + i, none⟩ = some (.int .u8 ((l.map fun y : UInt8 => (y.toNat : Int)).getD i 0)) := by
    intro i hi
    rw [hc i hi]
    have : i < l.length := by omega
    simp [this]
  have e1 : Lib.bytesOf (l.map fun y : UInt8 => (y.toNat : Int)) = l := by
    simp only [Lib.bytesOf, List.map_map]
    conv => rhs; rw [← List.map_id l]
    exact List.map_congr_left fun y _ => by simp
  have e2 : ((x.toNat : Int)).toNat.toUInt8 = x := by simp
  have hrun := Lib.run_indexByteSlice (P := Try.prog) w b o n c (l.map fun y : UInt8 => (y.toNat : Int)) hx hc' (x.toNat : Int)
  rw [e1, e2] at hrun
  clear hx hc' e1 e2 hc hl
  go_enter Try.func147, Try.ntmps147
  go_wp2
  rw [run_callFunc_extern Try.func150 (by kernel_rfl) (by kernel_rfl) (by kernel_rfl) (e := Extern.BytealgIndexByte.indexByte) (by kernel_rfl), hrun]
  simp only [Result.andThen]
  rw [Oper.upon_value]
  go_wp2
  go_ret
  exact ⟨rfl, rfl⟩

set_option maxHeartbeats 1000000 in
set_option maxRecDepth 100000 in
theorem back_any (b : UInt8) (w : World) : Calls Try.prog 134 #[.int .u8 b.toNat] w fun e w' => e = .returned (.int .u8 (backB b).toNat) ∧ Below w.heap.size w w' := by
  have hi := hid (back_is b)
  have hb8 := u8_ofInt (backB b)
  have s0 : csz (bvs sboxL) = 256 := by rw [csz_bvs, sboxL_len]
  have s1 : csz Try.zeroCells170 = 256 := by kernel_rfl
  go_enter Try.func134, Try.ntmps134
  go_wp2_with fail
  refine (subs_any _).mono ?_
  rintro e w1 ⟨rfl, hb⟩
  go_wp2_with fail
  refine (indexByte_any sboxL w1.heap.size 0 256 256 b _ sboxL_len (fun i hi => ?_)).mono ?_
  · rw [Nat.zero_add, World.cell?_alloc_at _ _ _ _ rfl]
    exact bvs_get (by rw [sboxL_len]; exact hi)
  rintro e w2 ⟨rfl, rfl⟩
  rw [hi.out]
  go_wp2
  go_ret
  exact ⟨rfl, hb.alloc hb.size _⟩

set_option maxRecDepth 100000 in
set_option maxHeartbeats 1000000 in
theorem backAll_any (l : List UInt8) (hl : l.length = 16) (w : World) : Calls Try.prog 110 #[.agg (bvs l)] w fun e w' => e = .returned (.agg (bvs (l.map backB))) ∧ Below w.heap.size w w' := by
  have H := hid hl
  have hfin := hid (mapN_all backB l 16 hl)
  have s0 : csz (bvs l) = 16 := by rw [csz_bvs, hl]
  clear hl
  have z := zs16
  go_enter Try.func110, Try.ntmps110
  go_wp2_with fail
  go_loopw [3, 4, 6] (fun u3 u4 u6 wr => ∃ k : Nat, k ≤ 16 ∧ u6 = .int .i64 k ∧ St w wr [(w.heap.size + 1, bvs (zs 16), 149), (w.heap.size, bvs (mapN backB l k), 149)])
    (fun _ _ i _ => 16 - (intOf i).toNat)
  case atStart => exact ⟨0, by omega, rfl, by rw [mapN_zero]; exact (St.alloc' (St.alloc' (St.start w) (by first | rfl | simp)) (by first | rfl | simp))⟩
  case round =>
    obtain ⟨k, hk, rfl, hS⟩ := hrel
    by_cases hlt : k < 16
    · have hx := bvs_get (l := l) (k := k) (by rw [H.out]; omega)
      have hy := bvs_get (l := mapN backB l k) (k := k) (by rw [mapN_len, H.out]; omega)
      generalize hX : l.getD k 0 = x at hx
      generalize (mapN backB l k).getD k 0 = y at hy
      have HX := hid hX; clear hX
      go_wp2_with fail
      refine (back_any x _).mono ?_
      rintro e w1 ⟨rfl, hb⟩
      have hS2 := hS.call hb
      clear hS hb
      obtain ⟨kb1, kc1, kf1, kl1, kn1⟩ := hS2.at 1 rfl
      go_wp2
      go_roundw
      case rel =>
        refine ⟨k + 1, by omega, by go_num, ?_⟩
        have h3 := hS2.setCell 1 rfl k (.int .u8 ((backB x).toNat : Int))
        rw [bvs_set, show (mapN backB l k).set k (backB x) = mapN backB l (k + 1) by rw [mapN_succ, HX.out]] at h3
        exact h3
      case measure => simp [intOf]; omega
    · obtain rfl : k = 16 := by omega
      have hs : csz (bvs (mapN backB l 16)) = 16 := by rw [csz_bvs, mapN_len, H.out]
      clear hk hlt
      obtain ⟨kb0, kc0, kf0, kl0, kn0⟩ := hS.at 0 rfl; obtain ⟨kb1, kc1, kf1, kl1, kn1⟩ := hS.at 1 rfl
      go_wp2
      have h3 := hS.setRow 0 rfl (bvs (mapN backB l 16))
      exact post_cell (n := 16) Try.results110 (by kernel_rfl) (.inl rfl) _ _ _ _ rfl rfl (h3.blk 0 rfl) hs ⟨by rw [hfin.out], h3.below⟩
end Go.Proofs.Ytkfggilildiflab

namespace Go.Proofs.Ytkfggilildiflab
open Go.ChangeShapes Go.WideShapes Go.ChangeAt Go.RowKit
def mixL (l : List UInt8) : List UInt8 := byPart l [2, 3, 1, 1] 16
def mixAll (l : List UInt8) : List UInt8 := colsN (fun l => byPart l [2, 3, 1, 1] 16) l 4
def shSub (l : List UInt8) : List UInt8 := shPart (l.map subB) 16
/-- What a round makes of the state, ahead of its key. -/
def midN (n k : Nat) (x : List UInt8) : List UInt8 := if 0 < k then (if k + 1 < n then mixAll (shSub x) else shSub x) else x
/-- So many rounds are done. -/
def encN (ks : List (List UInt8)) (s : List UInt8) : Nat → List UInt8
  | 0 => s
  | k + 1 => xorL (midN ks.length k (encN ks s k)) (ks.getD k [])
theorem mixAll_len {l : List UInt8} (h : l.length = 16) : (mixAll l).length = 16 := colsN_len (fun _ => byPart_len _ _ _) h 4 (Nat.le_refl _)
theorem shSub_len (l : List UInt8) : (shSub l).length = 16 := shPart_len _ _
theorem encN_zero (ks : List (List UInt8)) (s : List UInt8) : encN ks s 0 = s := rfl
theorem encN_succ (ks : List (List UInt8)) (s : List UInt8) (k : Nat) : encN ks s (k + 1) = xorL (midN ks.length k (encN ks s k)) (ks.getD k []) := rfl
theorem encN_len {ks : List (List UInt8)} (hk : ∀ k ∈ ks, k.length = 16) {s : List UInt8} (hs : s.length = 16) : ∀ k, k ≤ ks.length → (encN ks s k).length = 16
  | 0, _ => hs
  | k + 1, h => by
    have h1 := encN_len hk hs k (by omega)
    rw [encN_succ]
    have hkk : (ks.getD k []).length = 16 := by
      have : k < ks.length := by omega
      simp only [List.getD_eq_getElem?_getD, List.getElem?_eq_getElem this, Option.getD_some]
      exact hk _ (List.getElem_mem _)
    have : (midN ks.length k (encN ks s k)).length = 16 := by
      unfold midN
      split
      · split
        · exact mixAll_len (shSub_len _)
        · exact shSub_len _
      · exact h1
    exact xorL_len _ _ 16 this hkk

theorem midN_zero (n : Nat) (x : List UInt8) : midN n 0 x = x := by unfold midN; rw [if_neg (by omega)]
theorem midN_mid (n k : Nat) (h0 : 0 < k) (h1 : k + 1 < n) (x : List UInt8) : midN n k x = mixAll (shSub x) := by unfold midN; rw [if_pos h0, if_pos h1]
theorem midN_last (n k : Nat) (h0 : 0 < k) (h1 : ¬ k + 1 < n) (x : List UInt8) : midN n k x = shSub x := by unfold midN; rw [if_pos h0, if_neg h1]
/-- The value is a slice of these round keys. -/
def KeysAt (w : World) (v : Value) (ks : List (List UInt8)) : Prop :=
  (∀ k ∈ ks, k.length = 16) ∧ ∃ p c, v = .slice p ks.length c ∧ ∀ i k, ks[i]? = some k → ∃ b o cs t e, p = some ⟨b, o, none⟩ ∧ blk w b = some (.cells cs t e) ∧ o + i * 16 + 16 ≤ csz cs ∧ cut cs (o + i * 16) 16 = bvs k
attribute [irreducible] encN mixAll shSub midN
attribute [local irreducible] xorL sboxL subB

theorem shSub_is (l : List UInt8) : shPart (l.map subB) 16 = shSub l := by unfold shSub; rfl
theorem columnsMix_is (l : List UInt8) (hl : l.length = 16) (w : World) :
    Calls Try.prog 102 #[.agg (bvs l), .func (.func 103) #[] #[]] w fun e w' => e = .returned (.agg (bvs (mixAll l))) ∧ Below w.heap.size w w' := by
  unfold mixAll; exact columnsMix_any l hl w
theorem shiftSub_any (l : List UInt8) (hl : l.length = 16) (w : World) : Calls Try.prog 100 #[.agg (bvs (l.map subB))] w fun e w' => e = .returned (.agg (bvs (shSub l))) ∧ Below w.heap.size w w' := by
  have := shift_any (l.map subB) (by simpa using hl) w; rw [shSub_is] at this; exact this

set_option maxRecDepth 100000 in
set_option maxHeartbeats 4000000 in
theorem encrypt_any (ks : List (List UInt8)) (s : List UInt8) (hs : s.length = 16) (v : Value) (w : World) (hv : KeysAt w v ks) (hn9 : ks.length ≤ 1000000000) :
    Calls Try.prog 81 #[v, .agg (bvs s)] w fun e w' => e = .returned (.agg (bvs (encN ks s ks.length))) ∧ Below w.heap.size w w' := by
  obtain ⟨hk16, p, c, rfl, hkeys⟩ := hv
  have HL := hid (encN_len hk16 hs)
  have HK := hid hk16; have HKE := hid hkeys
  have s0 : csz (bvs s) = 16 := by rw [csz_bvs, hs]
  clear hs hk16 hkeys
  obtain ⟨n, hn⟩ : ∃ n, n = ks.length := ⟨_, rfl⟩
  rw [← hn] at hn9 ⊢
  have HN := hid hn; clear hn
  have z := zs16
  go_enter Try.func81, Try.ntmps81
  go_wp2_with fail
  go_loopw [5, 6, 9] (fun u5 u6 u9 wr => ∃ k : Nat, k ≤ n ∧ u9 = .int .i64 k ∧ St w wr [(w.heap.size + 1, bvs (zs 16), 149), (w.heap.size, bvs (encN ks s k), 149)])
    (fun _ _ i _ => n - (intOf i).toNat)
  case atStart => exact ⟨0, by omega, rfl, by rw [encN_zero]; exact (St.alloc' (St.alloc' (St.start w) (by first | rfl | simp)) (by first | rfl | simp))⟩
  case round =>
    obtain ⟨k, hk, rfl, hS⟩ := hrel
    have hlx := HL.out k (by rw [← HN.out]; exact hk)
    have s1 : csz (bvs (encN ks s k)) = 16 := by rw [csz_bvs, hlx]
    by_cases hlt : k < n
    · have hkn : k < ks.length := by rw [← HN.out]; exact hlt
      obtain ⟨b, o, cs, t, e, rfl, hb, hfit, hcut⟩ := HKE.out k ks[k] (List.getElem?_eq_getElem hkn)
      have hkey := HK.out ks[k] (List.getElem_mem _)
      have hnx := hid (encN_succ ks s k)
      rw [show ks.getD k [] = ks[k] by simp [List.getD_eq_getElem?_getD, hkn], ← HN.out] at hnx
      generalize ks[k] = key at *
      have hb2 := (hS.below.block b (blk_lt hb)).trans hb
      change blk wr b = _ at hb2
      generalize encN ks s k = x at *
      have s2 : csz (bvs key) = 16 := by rw [csz_bvs, hkey]
      have hsm := csz_bvs (x.map subB)
      have s3 : csz (bvs (x.map subB)) = 16 := by rw [csz_bvs, List.length_map, hlx]
      have s4 : csz (bvs (shSub x)) = 16 := by rw [csz_bvs, shSub_len]
      have s5 : csz (bvs (mixAll (shSub x))) = 16 := by rw [csz_bvs, mixAll_len (shSub_len x)]
      have HX := hid hlx; have HKY := hid hkey
      clear hb hlx hsm
      by_cases h0 : 0 < k
      · have g0 : (0 : Int) < (k : Int) := by omega
        have s6 : csz (bvs (xorL (shSub x) key)) = 16 := by rw [csz_bvs, xorL_len _ _ 16 (shSub_len x) hkey]
        have s7 : csz (bvs (xorL (mixAll (shSub x)) key)) = 16 := by rw [csz_bvs, xorL_len _ _ 16 (mixAll_len (shSub_len x)) hkey]
        clear hkey
        obtain ⟨kb1, kc1, kf1, kl1, kn1⟩ := hS.at 1 rfl
        by_cases h1 : k + 1 < n
        · rw [midN_mid n k h0 h1] at hnx
          have g1 : (k : Int) < (n : Int) - 1 := by omega
          go_wp2_with fail
          with_reducible refine (subAll_any x HX.out _).mono ?_
          rintro e w1 ⟨rfl, hb⟩
          have hS2 := (hS.alloc (bvs key) 149).call hb
          clear hS hb kb1 kc1 kf1 kl1 kn1 hb2
          go_wp2_with fail
          with_reducible refine (shiftSub_any x HX.out _).mono ?_
          rintro e w2 ⟨rfl, hb⟩
          have hS3 := hS2.call hb
          clear hS2 hb
          obtain ⟨kb0, kc0, kf0, kl0, kn0⟩ := hS3.at 0 rfl; obtain ⟨kb2, kc2, kf2, kl2, kn2⟩ := hS3.at 2 rfl
          have hT := hS3.setRow 2 rfl (bvs (shSub x))
          have e0 := hT.blk 0 rfl
          have e2 := hT.blk 2 rfl
          clear hT
          go_wp2_with fail
          with_reducible refine (columnsMix_is (shSub x) (shSub_len x) _).mono ?_
          rintro e w3 ⟨rfl, hb⟩
          have hS4 := (hS3.setRow 2 rfl (bvs (shSub x))).call hb
          clear hS3 hb kb0 kc0 kf0 kl0 kn0 kb2 kc2 kf2 kl2 kn2 e0 e2
          simp only [List.set_cons_zero, List.set_cons_succ] at hS4
          obtain ⟨kb0, kc0, kf0, kl0, kn0⟩ := hS4.at 0 rfl; obtain ⟨kb2, kc2, kf2, kl2, kn2⟩ := hS4.at 2 rfl
          have hT := hS4.setRow 2 rfl (bvs (mixAll (shSub x)))
          have e0 := hT.blk 0 rfl
          have e2 := hT.blk 2 rfl
          clear hT
          go_wp2_with fail
          with_reducible refine (xor_any (mixAll (shSub x)) key (mixAll_len (shSub_len x)) HKY.out _).mono ?_
          rintro e w4 ⟨rfl, hb⟩
          have hS5 := (hS4.setRow 2 rfl (bvs (mixAll (shSub x)))).call hb
          clear hS4 hb kb0 kc0 kf0 kl0 kn0 kb2 kc2 kf2 kl2 kn2 e0 e2
          simp only [List.set_cons_zero, List.set_cons_succ] at hS5
          obtain ⟨kb2, kc2, kf2, kl2, kn2⟩ := hS5.at 2 rfl
          go_wp2
          go_roundw
          case rel =>
            have h6 := (hS5.setRow 2 rfl (bvs (xorL (mixAll (shSub x)) key))).tail
            simp only [List.set_cons_zero, List.set_cons_succ] at h6
            exact ⟨k + 1, by omega, by go_num, by rw [hnx.out]; exact h6⟩
          case measure => simp [intOf]; omega
        · rw [midN_last n k h0 h1] at hnx
          have g1 : (n : Int) - 1 ≤ (k : Int) := by omega
          go_wp2_with fail
          with_reducible refine (subAll_any x HX.out _).mono ?_
          rintro e w1 ⟨rfl, hb⟩
          have hS2 := (hS.alloc (bvs key) 149).call hb
          clear hS hb kb1 kc1 kf1 kl1 kn1 hb2
          go_wp2_with fail
          with_reducible refine (shiftSub_any x HX.out _).mono ?_
          rintro e w2 ⟨rfl, hb⟩
          have hS3 := hS2.call hb
          clear hS2 hb
          obtain ⟨kb0, kc0, kf0, kl0, kn0⟩ := hS3.at 0 rfl; obtain ⟨kb2, kc2, kf2, kl2, kn2⟩ := hS3.at 2 rfl
          have hT := hS3.setRow 2 rfl (bvs (shSub x))
          have e0 := hT.blk 0 rfl
          have e2 := hT.blk 2 rfl
          clear hT
          go_wp2_with fail
          with_reducible refine (xor_any (shSub x) key (shSub_len x) HKY.out _).mono ?_
          rintro e w4 ⟨rfl, hb⟩
          have hS5 := (hS3.setRow 2 rfl (bvs (shSub x))).call hb
          clear hS3 hb kb0 kc0 kf0 kl0 kn0 kb2 kc2 kf2 kl2 kn2 e0 e2
          simp only [List.set_cons_zero, List.set_cons_succ] at hS5
          obtain ⟨kb2, kc2, kf2, kl2, kn2⟩ := hS5.at 2 rfl
          go_wp2
          go_roundw
          case rel =>
            have h6 := (hS5.setRow 2 rfl (bvs (xorL (shSub x) key))).tail
            simp only [List.set_cons_zero, List.set_cons_succ] at h6
            exact ⟨k + 1, by omega, by go_num, by rw [hnx.out]; exact h6⟩
          case measure => simp [intOf]; omega
      · obtain rfl : k = 0 := by omega
        have s6 : csz (bvs (xorL x key)) = 16 := by rw [csz_bvs, xorL_len _ _ 16 HX.out hkey]
        rw [midN_zero] at hnx
        simp only [Nat.zero_mul, Nat.add_zero] at hcut hfit
        clear hkey
        obtain ⟨kb1, kc1, kf1, kl1, kn1⟩ := hS.at 1 rfl
        go_wp2_with fail
        with_reducible refine (xor_any x key HX.out HKY.out _).mono ?_
        rintro e w1 ⟨rfl, hb⟩
        have hS5 := (hS.alloc (bvs key) 149).call hb
        clear hS hb kb1 kc1 kf1 kl1 kn1 hb2
        obtain ⟨kb2, kc2, kf2, kl2, kn2⟩ := hS5.at 2 rfl
        go_wp2
        go_roundw
        case rel =>
          have h6 := (hS5.setRow 2 rfl (bvs (xorL x key))).tail
          simp only [List.set_cons_zero, List.set_cons_succ] at h6
          exact ⟨1, by omega, by go_num, by rw [hnx.out]; exact h6⟩
        case measure => simp [intOf]; omega
    · obtain rfl : k = n := by omega
      clear hlt hk
      obtain ⟨kb0, kc0, kf0, kl0, kn0⟩ := hS.at 0 rfl; obtain ⟨kb1, kc1, kf1, kl1, kn1⟩ := hS.at 1 rfl
      go_wp2
      have h3 := hS.setRow 0 rfl (bvs (encN ks s k))
      exact post_cell (n := 16) Try.results81 (by kernel_rfl) (.inl rfl) _ _ _ _ rfl rfl (h3.blk 0 rfl) s1 ⟨rfl, h3.below⟩
end Go.Proofs.Ytkfggilildiflab

namespace Go.Proofs.Ytkfggilildiflab
open Go.ChangeShapes Go.WideShapes Go.ChangeAt Go.RowKit
def unmixAll (l : List UInt8) : List UInt8 := colsN (fun l => byPart l [14, 11, 13, 9] 16) l 4
def unSub (l : List UInt8) : List UInt8 := (unPart l 16).map backB
/-- What a round makes of the state, behind its key. -/
def unMid (n i : Nat) (y : List UInt8) : List UInt8 := if 0 < i then (if i + 1 < n then unSub (unmixAll y) else unSub y) else y
/-- So many rounds are done, the last one first. -/
def decN (ks : List (List UInt8)) (s : List UInt8) : Nat → List UInt8
  | 0 => s
  | j + 1 => unMid ks.length (ks.length - 1 - j) (xorL (decN ks s j) (ks.getD (ks.length - 1 - j) []))
theorem unmixAll_len {l : List UInt8} (h : l.length = 16) : (unmixAll l).length = 16 := colsN_len (fun _ => byPart_len _ _ _) h 4 (Nat.le_refl _)
theorem unSub_len (l : List UInt8) : (unSub l).length = 16 := by unfold unSub; rw [List.length_map]; exact unPart_len _ _
theorem unMid_len (n i : Nat) {y : List UInt8} (h : y.length = 16) : (unMid n i y).length = 16 := by
  unfold unMid
  split
  · split
    · exact unSub_len _
    · exact unSub_len _
  · exact h
theorem key_len {ks : List (List UInt8)} (hk : ∀ k ∈ ks, k.length = 16) {i : Nat} (h : i < ks.length) : (ks.getD i []).length = 16 := by
  simp only [List.getD_eq_getElem?_getD, List.getElem?_eq_getElem h, Option.getD_some]
  exact hk _ (List.getElem_mem _)
theorem decN_zero (ks : List (List UInt8)) (s : List UInt8) : decN ks s 0 = s := rfl
theorem decN_succ (ks : List (List UInt8)) (s : List UInt8) (j : Nat) : decN ks s (j + 1) = unMid ks.length (ks.length - 1 - j) (xorL (decN ks s j) (ks.getD (ks.length - 1 - j) [])) := rfl
theorem decN_len {ks : List (List UInt8)} (hk : ∀ k ∈ ks, k.length = 16) {s : List UInt8} (hs : s.length = 16) : ∀ j, j ≤ ks.length → (decN ks s j).length = 16
  | 0, _ => hs
  | j + 1, h => by
    rw [decN_succ]
    exact unMid_len _ _ (xorL_len _ _ 16 (decN_len hk hs j (by omega)) (key_len hk (by omega)))
theorem unMid_zero (n : Nat) (x : List UInt8) : unMid n 0 x = x := by unfold unMid; rw [if_neg (by omega)]
theorem unMid_mid (n k : Nat) (h0 : 0 < k) (h1 : k + 1 < n) (x : List UInt8) : unMid n k x = unSub (unmixAll x) := by unfold unMid; rw [if_pos h0, if_pos h1]
theorem unMid_last (n k : Nat) (h0 : 0 < k) (h1 : ¬ k + 1 < n) (x : List UInt8) : unMid n k x = unSub x := by unfold unMid; rw [if_pos h0, if_neg h1]
attribute [irreducible] decN unmixAll unSub unMid
attribute [local irreducible] xorL sboxL subB backB

theorem columnsUnmix_is (l : List UInt8) (hl : l.length = 16) (w : World) :
    Calls Try.prog 102 #[.agg (bvs l), .func (.func 109) #[] #[]] w fun e w' => e = .returned (.agg (bvs (unmixAll l))) ∧ Below w.heap.size w w' := by
  unfold unmixAll; exact columnsUnmix_any l hl w
theorem unSub_is (l : List UInt8) : (unPart l 16).map backB = unSub l := by unfold unSub; rfl
theorem backAllUn_any (l : List UInt8) (w : World) : Calls Try.prog 110 #[.agg (bvs (unPart l 16))] w fun e w' => e = .returned (.agg (bvs (unSub l))) ∧ Below w.heap.size w w' := by
  have := backAll_any (unPart l 16) (unPart_len l 16) w; rw [unSub_is] at this; exact this

set_option maxRecDepth 100000 in
set_option maxHeartbeats 4000000 in
theorem decrypt_any (ks : List (List UInt8)) (s : List UInt8) (hs : s.length = 16) (v : Value) (w : World) (hv : KeysAt w v ks) (hn9 : ks.length ≤ 1000000000) :
    Calls Try.prog 86 #[v, .agg (bvs s)] w fun e w' => e = .returned (.agg (bvs (decN ks s ks.length))) ∧ Below w.heap.size w w' := by
  obtain ⟨hk16, p, c, rfl, hkeys⟩ := hv
  have HL := hid (decN_len hk16 hs)
  have HK := hid hk16; have HKE := hid hkeys
  have s0 : csz (bvs s) = 16 := by rw [csz_bvs, hs]
  clear hs hk16 hkeys
  obtain ⟨n, hn⟩ : ∃ n, n = ks.length := ⟨_, rfl⟩
  rw [← hn] at hn9 ⊢
  have HN := hid hn; clear hn
  have z := zs16
  go_enter Try.func86, Try.ntmps86
  go_wp2_with fail
  go_loopw [5] (fun u5 wr => ∃ j : Nat, j ≤ n ∧ u5 = .int .i64 ((n : Int) - 1 - (j : Int)) ∧ St w wr [(w.heap.size + 1, bvs (zs 16), 149), (w.heap.size, bvs (decN ks s j), 149)])
    (fun i _ => (intOf i + 1).toNat)
  case atStart => exact ⟨0, by omega, by simp, by rw [decN_zero]; exact (St.alloc' (St.alloc' (St.start w) (by first | rfl | simp)) (by first | rfl | simp))⟩
  case round =>
    obtain ⟨j, hj, rfl, hS⟩ := hrel
    have hlx := HL.out j (by rw [← HN.out]; exact hj)
    have s1 : csz (bvs (decN ks s j)) = 16 := by rw [csz_bvs, hlx]
    by_cases hlt : j < n
    · obtain ⟨i, hI⟩ : ∃ i : Nat, (n : Int) - 1 - (j : Int) = (i : Int) := ⟨n - 1 - j, by omega⟩
      have hnx := hid (decN_succ ks s j)
      rw [← HN.out, show n - 1 - j = i by omega] at hnx
      rw [hI]
      have hin : (i : Int) < (n : Int) := by omega
      have hin' : i < n := by omega
      have hst : (n : Int) - 1 - ((j + 1 : Nat) : Int) = (i : Int) - 1 := by omega
      have HST := hid hst
      clear hst hI
      have hkn : i < ks.length := by rw [← HN.out]; exact hin'
      obtain ⟨b, o, cs, t, e, rfl, hb, hfit, hcut⟩ := HKE.out i ks[i] (List.getElem?_eq_getElem hkn)
      have hkey := HK.out ks[i] (List.getElem_mem _)
      rw [show ks.getD i [] = ks[i] by simp [List.getD_eq_getElem?_getD, hkn]] at hnx
      generalize ks[i] = key at *
      generalize decN ks s j = x at *
      have s2 : csz (bvs key) = 16 := by rw [csz_bvs, hkey]
      have hly := xorL_len x key 16 hlx hkey
      have s3 : csz (bvs (xorL x key)) = 16 := by rw [csz_bvs, hly]
      have s4 : csz (bvs (unPart (unmixAll (xorL x key)) 16)) = 16 := by rw [csz_bvs, unPart_len]
      have s5 : csz (bvs (unmixAll (xorL x key))) = 16 := by rw [csz_bvs, unmixAll_len hly]
      have s6 : csz (bvs (unPart (xorL x key) 16)) = 16 := by rw [csz_bvs, unPart_len]
      have s7 : csz (bvs (unSub (unmixAll (xorL x key)))) = 16 := by rw [csz_bvs, unSub_len]
      have s8 : csz (bvs (unSub (xorL x key))) = 16 := by rw [csz_bvs, unSub_len]
      have cX := hid (xor_any x key hlx hkey)
      have HB := hid hb
      have HY := hid hly
      clear hlx hkey hb hly
      have g9 : (0 : Int) ≤ (i : Int) := by omega
      go_wp2_with fail
      refine region_tail_lit (by kernel_rfl) (by kernel_rfl) ?_
      dsimp only [List.dropLast, List.getLast?, List.getLast, Option.getD]
      repeat (first | (refine BigFrame.wpQuiet_skip rfl ?_; simp only [Act.put, List.setIfInBounds_toArray, List.set_cons_zero, List.set_cons_succ]) | (refine BigFrame.wpQuiet_want rfl (fun K hK => ?_); apply Exists.intro; refine ⟨fun w' hw' => ?_, hK _ ?_⟩; (focus (have zS := hS.cls hw'; obtain ⟨zb0, zc0, zf0, zl0, zn0⟩ := zS.at 1 rfl; obtain ⟨zb1, zc1, zf1, zl1, zn1⟩ := zS.far HB.out; clear zS; go_simp; (try (go_bits; go_simp)); first | done | rfl | ((go_at_call 104; exact hw'.call (cX.out _))))); clear hK K; simp only [Act.put, List.setIfInBounds_toArray, List.set_cons_zero, List.set_cons_succ]))
      refine wpQuiet_nil ?_
      intro w2 hc
      have hS2 := hS.cls hc
      clear hS hc
      obtain ⟨kb1, kc1, kf1, kl1, kn1⟩ := hS2.at 1 rfl
      have hT := hS2.setRow 1 rfl (bvs (xorL x key))
      simp only [List.set_cons_zero, List.set_cons_succ] at hT
      have e2 := hT.blk 1 rfl
      clear hT
      by_cases h0 : 0 < i
      · have g0 : (0 : Int) < (i : Int) := by omega
        by_cases h1 : i + 1 < n
        · rw [unMid_mid n i h0 h1] at hnx
          have g1 : (i : Int) < (n : Int) - 1 := by omega
          go_wp2_with fail
          with_reducible refine (columnsUnmix_is (xorL x key) HY.out _).mono ?_
          rintro e w3 ⟨rfl, hb⟩
          have hS3 := (hS2.setRow 1 rfl (bvs (xorL x key))).call hb
          simp only [List.set_cons_zero, List.set_cons_succ] at hS3
          clear hS2 hb kb1 kc1 kf1 kl1 kn1 e2
          obtain ⟨kb1, kc1, kf1, kl1, kn1⟩ := hS3.at 1 rfl
          have hT := hS3.setRow 1 rfl (bvs (unmixAll (xorL x key)))
          simp only [List.set_cons_zero, List.set_cons_succ] at hT
          have e2 := hT.blk 1 rfl
          clear hT
          go_wp2_with fail
          with_reducible refine (unshift_any (unmixAll (xorL x key)) (unmixAll_len HY.out) _).mono ?_
          rintro e w4 ⟨rfl, hb⟩
          have hS4 := (hS3.setRow 1 rfl (bvs (unmixAll (xorL x key)))).call hb
          simp only [List.set_cons_zero, List.set_cons_succ] at hS4
          clear hS3 hb kb1 kc1 kf1 kl1 kn1 e2
          go_wp2_with fail
          with_reducible refine (backAllUn_any (unmixAll (xorL x key)) _).mono ?_
          rintro e w5 ⟨rfl, hb⟩
          have hS5 := hS4.call hb
          clear hS4 hb
          obtain ⟨kb1, kc1, kf1, kl1, kn1⟩ := hS5.at 1 rfl
          go_wp2
          go_roundw
          case rel =>
            have h6 := hS5.setRow 1 rfl (bvs (unSub (unmixAll (xorL x key))))
            simp only [List.set_cons_zero, List.set_cons_succ] at h6
            exact ⟨j + 1, by omega, by rw [HST.out], by rw [hnx.out]; exact h6⟩
          case measure => simp [intOf]
        · rw [unMid_last n i h0 h1] at hnx
          have g1 : (n : Int) - 1 ≤ (i : Int) := by omega
          go_wp2_with fail
          with_reducible refine (unshift_any (xorL x key) HY.out _).mono ?_
          rintro e w4 ⟨rfl, hb⟩
          have hS4 := (hS2.setRow 1 rfl (bvs (xorL x key))).call hb
          simp only [List.set_cons_zero, List.set_cons_succ] at hS4
          clear hS2 hb kb1 kc1 kf1 kl1 kn1 e2
          go_wp2_with fail
          with_reducible refine (backAllUn_any (xorL x key) _).mono ?_
          rintro e w5 ⟨rfl, hb⟩
          have hS5 := hS4.call hb
          clear hS4 hb
          obtain ⟨kb1, kc1, kf1, kl1, kn1⟩ := hS5.at 1 rfl
          go_wp2
          go_roundw
          case rel =>
            have h6 := hS5.setRow 1 rfl (bvs (unSub (xorL x key)))
            simp only [List.set_cons_zero, List.set_cons_succ] at h6
            exact ⟨j + 1, by omega, by rw [HST.out], by rw [hnx.out]; exact h6⟩
          case measure => simp [intOf]
      · obtain rfl : i = 0 := by omega
        rw [unMid_zero] at hnx
        go_wp2
        go_roundw
        case rel =>
          have h6 := hS2.setRow 1 rfl (bvs (xorL x key))
          simp only [List.set_cons_zero, List.set_cons_succ] at h6
          exact ⟨j + 1, by omega, by rw [HST.out]; rfl, by rw [hnx.out]; exact h6⟩
        case measure => simp [intOf]
    · obtain rfl : j = n := by omega
      have e1 : (j : Int) - 1 - (j : Int) = -1 := by omega
      rw [e1]
      clear hlt hj e1
      obtain ⟨kb0, kc0, kf0, kl0, kn0⟩ := hS.at 0 rfl; obtain ⟨kb1, kc1, kf1, kl1, kn1⟩ := hS.at 1 rfl
      go_wp2
      have h3 := hS.setRow 0 rfl (bvs (decN ks s j))
      exact post_cell (n := 16) Try.results86 (by kernel_rfl) (.inl rfl) _ _ _ _ rfl rfl (h3.blk 0 rfl) s1 ⟨rfl, h3.below⟩
end Go.Proofs.Ytkfggilildiflab

namespace Go.Proofs.Ytkfggilildiflab
open Go.ChangeShapes Go.WideShapes Go.ChangeAt Go.RowKit
theorem xorL_twice {a k : List UInt8} (h : a.length = k.length) : xorL (xorL a k) k = a := by
  unfold xorL
  apply List.ext_getElem
  · simp [h]
  · intro i h1 h2
    simp [UInt8.xor_assoc]
theorem colsN_is {M : List UInt8 → List UInt8} (hM : ∀ l, (M l).length = 4) {a b c d : List UInt8} (ha : a.length = 4) (hb : b.length = 4) (hc : c.length = 4) (hd : d.length = 4) :
    colsN M (a ++ (b ++ (c ++ d))) 4 = M a ++ (M b ++ (M c ++ M d)) := by
  obtain ⟨a0, a1, a2, a3, rfl⟩ := len4 ha
  obtain ⟨b0, b1, b2, b3, rfl⟩ := len4 hb
  obtain ⟨c0, c1, c2, c3, rfl⟩ := len4 hc
  obtain ⟨d0, d1, d2, d3, rfl⟩ := len4 hd
  have k1 : colsN M ([a0, a1, a2, a3] ++ ([b0, b1, b2, b3] ++ ([c0, c1, c2, c3] ++ [d0, d1, d2, d3]))) 1 = M [a0, a1, a2, a3] ++ ([b0, b1, b2, b3] ++ ([c0, c1, c2, c3] ++ [d0, d1, d2, d3])) := by
    rw [colsN_succ, colsN_zero]; rfl
  have hma := hM [a0, a1, a2, a3]
  obtain ⟨m0, m1, m2, m3, hm⟩ := len4 hma
  have k2 : colsN M ([a0, a1, a2, a3] ++ ([b0, b1, b2, b3] ++ ([c0, c1, c2, c3] ++ [d0, d1, d2, d3]))) 2 = M [a0, a1, a2, a3] ++ (M [b0, b1, b2, b3] ++ ([c0, c1, c2, c3] ++ [d0, d1, d2, d3])) := by
    rw [colsN_succ, k1, hm]; rfl
  obtain ⟨n0, n1, n2, n3, hn⟩ := len4 (hM [b0, b1, b2, b3])
  have k3 : colsN M ([a0, a1, a2, a3] ++ ([b0, b1, b2, b3] ++ ([c0, c1, c2, c3] ++ [d0, d1, d2, d3]))) 3 = M [a0, a1, a2, a3] ++ (M [b0, b1, b2, b3] ++ (M [c0, c1, c2, c3] ++ [d0, d1, d2, d3])) := by
    rw [colsN_succ, k2, hm, hn]; rfl
  obtain ⟨o0, o1, o2, o3, ho⟩ := len4 (hM [c0, c1, c2, c3])
  rw [colsN_succ, k3, hm, hn, ho]
  show [m0, m1, m2, m3, n0, n1, n2, n3, o0, o1, o2, o3] ++ (M [d0, d1, d2, d3] ++ []) = _
  rw [List.append_nil]; rfl
theorem four {l : List UInt8} (h : l.length = 16) : ∃ a b c d : List UInt8, a.length = 4 ∧ b.length = 4 ∧ c.length = 4 ∧ d.length = 4 ∧ l = a ++ (b ++ (c ++ d)) := by
  obtain ⟨a0, a1, a2, a3, a4, a5, a6, a7, a8, a9, a10, a11, a12, a13, a14, a15, rfl⟩ := len16 h
  exact ⟨[a0, a1, a2, a3], [a4, a5, a6, a7], [a8, a9, a10, a11], [a12, a13, a14, a15], rfl, rfl, rfl, rfl, rfl⟩
theorem unmix_mixAll {l : List UInt8} (h : l.length = 16) : unmixAll (mixAll l) = l := by
  obtain ⟨a, b, c, d, ha, hb, hc, hd, rfl⟩ := four h
  unfold unmixAll mixAll
  rw [colsN_is (fun l => byPart_len _ _ _) ha hb hc hd, colsN_is (fun l => byPart_len _ _ _) (byPart_len _ _ _) (byPart_len _ _ _) (byPart_len _ _ _) (byPart_len _ _ _), unmix_mix ha, unmix_mix hb, unmix_mix hc, unmix_mix hd]
theorem mix_unmixAll {l : List UInt8} (h : l.length = 16) : mixAll (unmixAll l) = l := by
  obtain ⟨a, b, c, d, ha, hb, hc, hd, rfl⟩ := four h
  unfold unmixAll mixAll
  rw [colsN_is (fun l => byPart_len _ _ _) ha hb hc hd, colsN_is (fun l => byPart_len _ _ _) (byPart_len _ _ _) (byPart_len _ _ _) (byPart_len _ _ _) (byPart_len _ _ _), mix_unmix ha, mix_unmix hb, mix_unmix hc, mix_unmix hd]
theorem map_back (l : List UInt8) : (l.map subB).map backB = l := by
  rw [List.map_map]; conv => rhs; rw [← List.map_id l]
  exact List.map_congr_left fun x _ => (turns x).1
theorem map_sub (l : List UInt8) : (l.map backB).map subB = l := by
  rw [List.map_map]; conv => rhs; rw [← List.map_id l]
  exact List.map_congr_left fun x _ => (turns x).2.1
theorem un_sh {l : List UInt8} (h : l.length = 16) : unSub (shSub l) = l := by
  unfold unSub shSub
  rw [unshift_shift (by simpa using h), map_back]
theorem sh_un {l : List UInt8} (h : l.length = 16) : shSub (unSub l) = l := by
  unfold unSub shSub
  rw [map_sub, shift_unshift h]
theorem un_mid (n k : Nat) {x : List UInt8} (h : x.length = 16) : unMid n k (midN n k x) = x := by
  unfold unMid midN
  split
  · split
    · rw [unmix_mixAll (shSub_len _), un_sh h]
    · rw [un_sh h]
  · rfl
theorem mid_un (n k : Nat) {x : List UInt8} (h : x.length = 16) : midN n k (unMid n k x) = x := by
  unfold unMid midN
  split
  · split
    · rw [sh_un (unmixAll_len h), mix_unmixAll h]
    · rw [sh_un h]
  · rfl
theorem midN_len (n k : Nat) {x : List UInt8} (h : x.length = 16) : (midN n k x).length = 16 := by
  unfold midN
  split
  · split
    · exact mixAll_len (shSub_len _)
    · exact shSub_len _
  · exact h
theorem dec_enc {ks : List (List UInt8)} (hk : ∀ k ∈ ks, k.length = 16) {s : List UInt8} (hs : s.length = 16) : ∀ j, j ≤ ks.length → decN ks (encN ks s ks.length) j = encN ks s (ks.length - j)
  | 0, _ => by rw [decN_zero, Nat.sub_zero]
  | j + 1, h => by
    rw [decN_succ, dec_enc hk hs j (by omega), show ks.length - j = (ks.length - 1 - j) + 1 by omega, encN_succ, show ks.length - (j + 1) = ks.length - 1 - j by omega]
    have h1 := encN_len hk hs (ks.length - 1 - j) (by omega)
    rw [xorL_twice (by rw [midN_len _ _ h1, key_len hk (by omega)]), un_mid _ _ h1]
theorem enc_dec {ks : List (List UInt8)} (hk : ∀ k ∈ ks, k.length = 16) {s : List UInt8} (hs : s.length = 16) : ∀ k, k ≤ ks.length → encN ks (decN ks s ks.length) k = decN ks s (ks.length - k)
  | 0, _ => by rw [encN_zero, Nat.sub_zero]
  | k + 1, h => by
    rw [encN_succ, enc_dec hk hs k (by omega), show ks.length - k = (ks.length - (k + 1)) + 1 by omega, decN_succ, show ks.length - 1 - (ks.length - (k + 1)) = k by omega]
    have h1 := decN_len hk hs (ks.length - (k + 1)) (by omega)
    have hkk := key_len hk (i := k) (by omega)
    rw [mid_un _ _ (xorL_len _ _ 16 h1 hkk), xorL_twice (by rw [h1, hkk])]
theorem dec_enc_all {ks : List (List UInt8)} (hk : ∀ k ∈ ks, k.length = 16) {s : List UInt8} (hs : s.length = 16) : decN ks (encN ks s ks.length) ks.length = s := by
  rw [dec_enc hk hs _ (Nat.le_refl _), Nat.sub_self, encN_zero]
theorem enc_dec_all {ks : List (List UInt8)} (hk : ∀ k ∈ ks, k.length = 16) {s : List UInt8} (hs : s.length = 16) : encN ks (decN ks s ks.length) ks.length = s := by
  rw [enc_dec hk hs _ (Nat.le_refl _), Nat.sub_self, decN_zero]
/-- Round keys that came in are what they were while nothing below turns. -/
theorem KeysAt.below {w w' : World} {v : Value} {ks : List (List UInt8)} (h : KeysAt w v ks) (hb : Below w.heap.size w w') : KeysAt w' v ks := by
  obtain ⟨h1, p, c, h2, h3⟩ := h
  refine ⟨h1, p, c, h2, fun i k hi => ?_⟩
  obtain ⟨b, o, cs, t, e, h4, h5, h6⟩ := h3 i k hi
  exact ⟨b, o, cs, t, e, h4, (hb.block b (blk_lt h5)).trans h5, h6⟩
end Go.Proofs.Ytkfggilildiflab

namespace Go.Proofs.Ytkfggilildiflab
open Go.ChangeShapes Go.WideShapes Go.ChangeAt Go.RowKit
/-- What a key's word number i becomes, out of those ahead of it. -/
def turnW (t : List UInt8) (n i : Nat) : List UInt8 :=
  if i % n = 0 then xorL ([t.getD 1 0, t.getD 2 0, t.getD 3 0, t.getD 0 0].map subB) [conB (i / n : Nat), 0, 0, 0]
  else if 6 < n ∧ i % n = 4 then t.map subB else t
def kword (n i : Nat) (ws : List (List UInt8)) : List UInt8 := xorL (turnW (ws.getD (i - 1) []) n i) (ws.getD (i - n) [])
/-- A key's words: so many. -/
def kws (key : List UInt8) (n : Nat) : Nat → List (List UInt8)
  | 0 => []
  | m + 1 => kws key n m ++ [if m < n then (key.drop (4 * m)).take 4 else kword n m (kws key n m)]
theorem kws_succ (key : List UInt8) (n m : Nat) : kws key n (m + 1) = kws key n m ++ [if m < n then (key.drop (4 * m)).take 4 else kword n m (kws key n m)] := rfl
theorem kws_zero (key : List UInt8) (n : Nat) : kws key n 0 = [] := rfl
theorem kws_len (key : List UInt8) (n m : Nat) : (kws key n m).length = m := by
  induction m with
  | zero => rfl
  | succ m ih => simp [kws, ih]
theorem turnW_len {t : List UInt8} (h : t.length = 4) (n i : Nat) : (turnW t n i).length = 4 := by
  unfold turnW
  split
  · exact xorL_len _ _ 4 (by simp) rfl
  · split
    · simpa using h
    · exact h
theorem get_len {ws : List (List UInt8)} (h : ∀ k ∈ ws, k.length = 4) {i : Nat} (hi : i < ws.length) : (ws.getD i []).length = 4 := by
  simp only [List.getD_eq_getElem?_getD, List.getElem?_eq_getElem hi, Option.getD_some]
  exact h _ (List.getElem_mem _)
theorem kws_four {key : List UInt8} {n : Nat} (hn : 0 < n) (hk : key.length = 4 * n) : ∀ m, ∀ k ∈ kws key n m, k.length = 4
  | 0, k, h => by simp [kws] at h
  | m + 1, k, h => by
    have ih := kws_four hn hk m
    rw [kws_succ] at h
    rcases List.mem_append.1 h with h | h
    · exact ih k h
    · rw [List.mem_singleton] at h
      subst h
      split
      · simp; omega
      · rename_i hmn
        exact xorL_len _ _ 4 (turnW_len (get_len ih (by rw [kws_len]; omega)) _ _) (get_len ih (by rw [kws_len]; omega))
/-- The round keys: four words each. -/
def rkeys (key : List UInt8) : List (List UInt8) :=
  let ws := kws key (key.length / 4) (4 * (key.length / 4 + 7))
  (List.range (key.length / 4 + 7)).map fun j => ws.getD (4 * j) [] ++ (ws.getD (4 * j + 1) [] ++ (ws.getD (4 * j + 2) [] ++ ws.getD (4 * j + 3) []))
theorem flat_four : ∀ (r : Nat) (ws : List (List UInt8)), ws.length = 4 * r → flat ((List.range r).map fun j => ws.getD (4 * j) [] ++ (ws.getD (4 * j + 1) [] ++ (ws.getD (4 * j + 2) [] ++ ws.getD (4 * j + 3) []))) = flat ws
  | 0, ws, h => by
    have : ws = [] := List.eq_nil_of_length_eq_zero (by omega)
    subst this; rfl
  | r + 1, ws, h => by
    match ws, h with
    | a :: b :: c :: d :: ws, h =>
      have ih := flat_four r ws (by simp at h; omega)
      rw [List.range_succ_eq_map, List.map_cons, List.map_map]
      simp only [flat, List.flatMap_cons, List.map_append, List.append_assoc] at ih ⊢
      rw [← ih]
      rfl
theorem rkeys_flat {key : List UInt8} : flat (rkeys key) = flat (kws key (key.length / 4) (4 * (key.length / 4 + 7))) := by
  unfold rkeys
  exact flat_four _ _ (kws_len _ _ _)
theorem rkeys_len (key : List UInt8) : (rkeys key).length = key.length / 4 + 7 := by simp [rkeys]
theorem rkeys_16 {key : List UInt8} (h : key.length = 16 ∨ key.length = 32) : ∀ k ∈ rkeys key, k.length = 16 := by
  intro k hk
  have h4 := kws_four (key := key) (n := key.length / 4) (by omega) (by omega) (4 * (key.length / 4 + 7))
  unfold rkeys at hk
  obtain ⟨j, hj, rfl⟩ := List.mem_map.1 hk
  have hj2 := List.mem_range.1 hj
  have hl := kws_len key (key.length / 4) (4 * (key.length / 4 + 7))
  rw [List.length_append, List.length_append, List.length_append, get_len h4 (by omega), get_len h4 (by omega), get_len h4 (by omega), get_len h4 (by omega)]
attribute [irreducible] kws rkeys turnW kword
end Go.Proofs.Ytkfggilildiflab
