/-
  Laws that the claims of this seat use, of several texts in one: RefDouble, TweakP, TweakV, TweakW, TweakI, Work, WrapP, WrapV, WrapA, WrapB, Slices7, Xor7, WSteps. No condition of their own.
-/
import Derived.Test.YtknkkcbihaojhaaJC0

namespace Go.Proofs.Ytknkkcbihaojhaa
open Go.ChangeShapes Go.WideShapes Go.ChangeAt Go.RowKit
theorem z129 : Try.zeroCells107 = bitsC 129 0 := by unfold bitsC; rfl
/-- The bits behind so many of the four changes. -/
def flD (M : Nat) : Nat → Nat
  | 0 => M
  | 1 => M ^^^ (1 <<< 0)
  | 2 => M ^^^ (1 <<< 0) ^^^ (1 <<< 1)
  | 3 => M ^^^ (1 <<< 0) ^^^ (1 <<< 1) ^^^ (1 <<< 2)
  | _ => M ^^^ (1 <<< 0) ^^^ (1 <<< 1) ^^^ (1 <<< 2) ^^^ (1 <<< 7)
theorem flD_all (M : Nat) : flD M 4 = M ^^^ 0x87 := by
  show M ^^^ (1 <<< 0) ^^^ (1 <<< 1) ^^^ (1 <<< 2) ^^^ (1 <<< 7) = _
  rw [Nat.xor_assoc, Nat.xor_assoc, Nat.xor_assoc]
  rfl
def litD : Array Value := #[.int .i64 0, .int .i64 1, .int .i64 2, .int .i64 7]
theorem litD_is : #[Value.int .i64 0, .int .i64 1, .int .i64 2, .int .i64 7] = litD := rfl
def atD : Nat → Nat | 0 => 0 | 1 => 1 | 2 => 2 | _ => 7
theorem litD_get {j : Nat} (h : j < 4) : litD[j]? = some (.int .i64 (atD j : Int)) := by
  match j, h with
  | 0, _ => rfl
  | 1, _ => rfl
  | 2, _ => rfl
  | 3, _ => rfl
theorem atD_lt (j : Nat) : atD j < 8 := by unfold atD; split <;> omega
theorem flD_step {M j : Nat} (h : j < 4) : (bitsC 129 (flD M j)).setIfInBounds (atD j) (.int .i64 ((1 : Int) - (tb (flD M j) (atD j) : Int))) = bitsC 129 (flD M (j + 1)) := by
  match j, h with
  | 0, _ => exact bitsC_flip _ 0
  | 1, _ => exact bitsC_flip _ 1
  | 2, _ => exact bitsC_flip _ 2
  | 3, _ => exact bitsC_flip _ 7
attribute [irreducible] litD atD flD
theorem bitsC_same {n : Nat} {P Q : Nat} (h : ∀ j, j < n → tb P j = tb Q j) : bitsC n P = bitsC n Q := by
  apply Array.ext_getElem?
  intro k
  rw [bitsC_any, bitsC_any]
  by_cases hk : k < n
  · rw [if_pos hk, if_pos hk, h k hk]
  · rw [if_neg hk, if_neg hk]
theorem out_byte (b : UInt8) (c : Nat) (h : c ≤ 1) : ((b.toNat : Int) * 2 % 256 + (c : Int)) = (((b * 2 + UInt8.ofNat c).toNat : Nat) : Int) := by
  have := b.toNat_lt
  rw [UInt8.toNat_add, UInt8.toNat_mul, UInt8.toNat_ofNat']
  simp
  omega
theorem tb_two (x i : Nat) : tb x i ≤ 1 := tb_le x i
set_option maxRecDepth 100000 in
set_option maxHeartbeats 4000000 in
theorem refDouble_any (k : List UInt8) (hk : k.length = 16) (w : World) :
    Calls Try.prog 62 #[.agg (bvs k)] w fun e w' => e = .returned (.agg (bvs (dblB k))) ∧ Below w.heap.size w w' := by
  have s1 : csz (bvs (zs 16)) = 16 := by rw [csz_bvs, zs_len]
  have s2 : csz (bvs k) = 16 := by rw [csz_bvs, hk]
  have s3 : csz (bvs (dblB k)) = 16 := by rw [csz_bvs, dblB_len]
  have HK := hid hk
  have z := zs16
  have z2 := z129
  have z3 := litD_is
  obtain ⟨N, hN⟩ : ∃ N, N = leN k := ⟨_, rfl⟩
  have hN2 : N < 2 ^ 128 := by have := leN_lt k; rw [hk] at this; rw [hN]; exact this
  have HD := hid (show dblB k = outS (dblN N) 0 by rw [outS_end, hN]; unfold dblB; rfl)
  have HN := hid hN
  have HT := hid (dbl_top N hN2)
  have HM := hid (Nat.mod_eq_of_lt hN2)
  have HQ := hid (dblN_tb N)
  clear hk hN hN2
  go_enter Try.func62, Try.ntmps62
  go_wp2_with fail
  go_loopw [4] (fun u4 wr => ∃ i : Nat, i ≤ 128 ∧ u4 = .int .i64 i ∧ St w wr [(w.heap.size + 1 + 1, bitsC 129 (2 * (N % 2 ^ i)), 107), (w.heap.size + 1, bvs (zs 16), 61), (w.heap.size, bvs k, 61)])
    (fun u4 _ => 128 - (intOf u4).toNat)
  case atStart => exact ⟨0, by omega, rfl, by simp only [Nat.pow_zero, Nat.mod_one, Nat.mul_zero]; rw [← z129]; exact (St.alloc' (St.alloc' (St.alloc' (St.start w) (by first | rfl | simp)) (by first | rfl | simp)) (by first | rfl | simp))⟩
  case round =>
    obtain ⟨i, hi, rfl, hS⟩ := hrel
    obtain ⟨x, rfl, hS, l1, l2, l3, n1, n2, n3, n4, n5, n6⟩ := hS.open3
    by_cases hlt : i < 128
    · have hb := bvs_get (l := k) (k := i / 8) (by rw [HK.out]; omega)
      have q1 : (i : Int) / 8 < 16 := by omega
      have hm := bitsC_get (n := 129) (2 * (N % 2 ^ i)) (j := i + 1) (by omega)
      have E1 := hid (show (i : Int) % 8 = ((i % 8 : Nat) : Int) by omega)
      have E2 := hid (tb_leN k i)
      rw [← HN.out] at E2
      generalize k.getD (i / 8) 0 = b at *
      go_wp2_with fail
      rw [E1.out]
      (with_reducible refine (bit_any b (i % 8) (by omega) _).mono ?_)
      rintro e w1 ⟨rfl, rfl⟩
      go_wp2
      go_roundw
      case rel => exact ⟨i + 1, by omega, by go_num, by rw [← E2.out, dblP_step]; exact hS.put3 _ _ _⟩
      case measure => simp [intOf]; omega
    · obtain rfl : i = 128 := by omega
      rw [HM.out]
      have hm := bitsC_get (n := 129) (2 * N) (j := 128) (by omega)
      rw [HT.out] at hm
      rw [HM.out] at hS
      by_cases hbig : 2 ^ 127 ≤ N
      · rw [if_pos hbig] at hm HQ
        obtain ⟨Q, hQ⟩ : ∃ Q, 2 * N ^^^ 135 = Q := ⟨_, rfl⟩
        rw [hQ] at HQ
        have H4 := hid ((flD_all (2 * N)).trans hQ)
        have H0 := hid (show flD (2 * N) 0 = 2 * N by unfold flD; rfl)
        clear hbig hQ
        generalize dblN N = M at *
        go_wp2_with fail
        go_loopw [6, 28] (fun u6 u28 wr => ∃ j : Nat, j ≤ 4 ∧ u28 = .int .i64 j ∧ St w wr [(x.heap.size, litD, 3), (w.heap.size + 1 + 1, bitsC 129 (flD (2 * N) j), 107), (w.heap.size + 1, bvs (zs 16), 61)])
          (fun _ u28 _ => 4 - (intOf u28).toNat)
        case atStart => exact ⟨0, by omega, rfl, by rw [H0.out]; exact (St.alloc' (n := x.heap.size) (hS.put3 _ _ _) (by simp [go_sem])).take 3⟩
        case round =>
          obtain ⟨j, hj, rfl, hS2⟩ := hrel
          obtain ⟨y, rfl, hS2, l1, l2, l3, n1, n2, n3, n4, n5, n6⟩ := hS2.open3
          by_cases hlt : j < 4
          · have hg := litD_get hlt
            have ha := atD_lt j
            have hm := bitsC_get (n := 129) (flD (2 * N) j) (j := atD j) (by omega)
            have E2 := hid (flD_step (M := 2 * N) hlt)
            have ht := tb_two (flD (2 * N) j) (atD j)
            generalize atD j = q at *
            generalize tb (flD (2 * N) j) q = c at *
            have q1 : (q : Int) < 129 := by omega
            have q2 : (0 : Int) ≤ (c : Int) := by omega
            have q3 : (c : Int) ≤ 1 := by omega
            go_wp2
            go_roundw
            case rel => exact ⟨j + 1, by omega, by go_num, by rw [← E2.out]; exact hS2.put3 _ _ _⟩
            case measure => simp [intOf]; omega
          · obtain rfl : j = 4 := by omega
            rw [H4.out] at *
            go_wp2_with fail
            go_loopw [8] (fun u8 wr => ∃ i : Nat, i ≤ 128 ∧ u8 = .int .i64 ((i : Int) - 1) ∧ St w wr [(y.heap.size, bvs (outS M i), 61), (w.heap.size + 1 + 1, bitsC 129 Q, 107), (w.heap.size + 1, bvs (zs 16), 61)])
              (fun u8 _ => (intOf u8 + 1).toNat)
            case atStart => exact ⟨128, by omega, rfl, by rw [outS_start]; exact ((St.alloc' (n := y.heap.size) (hS2.put3 _ _ _) (by simp [go_sem])).erase 1)⟩
            case round =>
              obtain ⟨i, hi, rfl, hS⟩ := hrel
              obtain ⟨y, rfl, hS, l1, l2, l3, n1, n2, n3, n4, n5, n6⟩ := hS.open3
              have s4 : csz (bvs (outS M i)) = 16 := by rw [csz_bvs, outS_len]
              by_cases h0 : 0 < i
              · obtain ⟨m, rfl⟩ : ∃ m, i = m + 1 := ⟨i - 1, by omega⟩
                rw [show ((m + 1 : Nat) : Int) - 1 = (m : Int) by omega]
                have hb := bvs_get (l := outS M (m + 1)) (k := m / 8) (by rw [outS_len]; omega)
                rw [outS_get M (m + 1) (by omega)] at hb
                have q1 : (m : Int) / 8 < 16 := by omega
                have q0 : (0 : Int) ≤ (m : Int) / 8 := by omega
                have q3 : ((m : Int) / 8).toNat = m / 8 := by omega
                have q2 : (m : Int) < 129 := by omega
                have hm := bitsC_get (n := 129) Q (j := m) (by omega)
                rw [HQ.out m (by omega)] at hm
                have ht := tb_two M m
                have E2 := hid (outS_step M m (by omega))
                have E3 := hid (out_byte (outQ M (m + 1) (m / 8)) (tb M m) ht)
                generalize outQ M (m + 1) (m / 8) = b at *
                generalize tb M m = c at *
                have hbl := b.toNat_lt
                go_wp2_with fail
                refine region_tail_lit (by kernel_rfl) (by kernel_rfl) ?_
                dsimp only [List.dropLast, List.getLast?, List.getLast, Option.getD]
                repeat (first | (refine BigFrame.wpQuiet_skip rfl ?_; simp only [Act.put, List.setIfInBounds_toArray, List.set_cons_zero, List.set_cons_succ]) | (refine BigFrame.wpQuiet_want rfl (fun K hK => ?_); apply Exists.intro; refine ⟨fun w' hw' => ?_, hK _ ?_⟩; (focus (have zw := hw'; obtain ⟨zg, rfl⟩ := grow_of hw'; go_simp; (try (go_bits; go_simp)); first | done | rfl | (fail))); clear hK K; simp only [Act.put, List.setIfInBounds_toArray, List.set_cons_zero, List.set_cons_succ]))
                refine wpQuiet_nil ?_
                intro wq hcq
                obtain ⟨gq, rfl⟩ := grow_of hcq
                clear hcq
                go_wp2
                go_roundw
                case rel => exact ⟨m, by omega, rfl, by rw [E3.out, bvs_set, E2.out]; exact (hS.put3 _ _ _).grow _⟩
                case measure => simp [intOf]
              · obtain rfl : i = 0 := by omega
                rw [← HD.out] at *
                go_wp2
                exact post_cell (n := 16) Try.results62 (by kernel_rfl) (.inl rfl) _ _ _ _ rfl rfl (by go_simp; first | done | rfl | exact ⟨rfl, rfl⟩) (by first | (rw [← csz_is]; assumption) | rfl) ⟨rfl, (by repeat (first | (with_reducible exact Below.refl _ _) | (with_reducible assumption) | (with_reducible exact grow_below _ _) | (with_reducible exact St.below (by assumption)) | (with_reducible refine below_grow ?_ _) | (with_reducible refine Below.alloc ?_ (by first | omega | (simp; done) | (simp [go_sem]; done) | (simp [go_sem]; omega)) _) | (with_reducible exact (St.put1 (by assumption) _).below) | (with_reducible exact (St.put2 (by assumption) _ _).below) | (with_reducible exact (St.put3 (by assumption) _ _ _).below) | (with_reducible exact (St.put4 (by assumption) _ _ _ _).below) | (with_reducible refine below_put ?_ (by first | omega | (simp [go_sem]; omega)) _ _) | (with_reducible refine Below.drew ?_) | (with_reducible refine Below.setCell ?_ (by first | omega | (simp [go_sem]; omega)) _) | (with_reducible refine below_setRow' ?_ (by first | omega | (simp [go_sem]; omega)) _) | (with_reducible refine below_drewN' ?_ _)))⟩
      · rw [if_neg hbig] at hm HQ
        generalize 2 * N = Q at *
        clear hbig
        generalize dblN N = M at *
        replace hm : (bitsC 129 Q)[128]? = some (.int .i64 0) := hm
        go_wp2_with fail
        go_loopw [8] (fun u8 wr => ∃ i : Nat, i ≤ 128 ∧ u8 = .int .i64 ((i : Int) - 1) ∧ St w wr [(x.heap.size, bvs (outS M i), 61), (w.heap.size + 1 + 1, bitsC 129 Q, 107), (w.heap.size + 1, bvs (zs 16), 61)])
          (fun u8 _ => (intOf u8 + 1).toNat)
        case atStart => exact ⟨128, by omega, rfl, by rw [outS_start]; exact (St.alloc' (n := x.heap.size) (hS.put3 _ _ _) (by simp [go_sem])).take 3⟩
        case round =>
          obtain ⟨i, hi, rfl, hS⟩ := hrel
          obtain ⟨y, rfl, hS, l1, l2, l3, n1, n2, n3, n4, n5, n6⟩ := hS.open3
          have s4 : csz (bvs (outS M i)) = 16 := by rw [csz_bvs, outS_len]
          by_cases h0 : 0 < i
          · obtain ⟨m, rfl⟩ : ∃ m, i = m + 1 := ⟨i - 1, by omega⟩
            rw [show ((m + 1 : Nat) : Int) - 1 = (m : Int) by omega]
            have hb := bvs_get (l := outS M (m + 1)) (k := m / 8) (by rw [outS_len]; omega)
            rw [outS_get M (m + 1) (by omega)] at hb
            have q1 : (m : Int) / 8 < 16 := by omega
            have q0 : (0 : Int) ≤ (m : Int) / 8 := by omega
            have q3 : ((m : Int) / 8).toNat = m / 8 := by omega
            have q2 : (m : Int) < 129 := by omega
            have hm := bitsC_get (n := 129) Q (j := m) (by omega)
            rw [HQ.out m (by omega)] at hm
            have ht := tb_two M m
            have E2 := hid (outS_step M m (by omega))
            have E3 := hid (out_byte (outQ M (m + 1) (m / 8)) (tb M m) ht)
            generalize outQ M (m + 1) (m / 8) = b at *
            generalize tb M m = c at *
            have hbl := b.toNat_lt
            go_wp2_with fail
            refine region_tail_lit (by kernel_rfl) (by kernel_rfl) ?_
            dsimp only [List.dropLast, List.getLast?, List.getLast, Option.getD]
            repeat (first | (refine BigFrame.wpQuiet_skip rfl ?_; simp only [Act.put, List.setIfInBounds_toArray, List.set_cons_zero, List.set_cons_succ]) | (refine BigFrame.wpQuiet_want rfl (fun K hK => ?_); apply Exists.intro; refine ⟨fun w' hw' => ?_, hK _ ?_⟩; (focus (have zw := hw'; obtain ⟨zg, rfl⟩ := grow_of hw'; go_simp; (try (go_bits; go_simp)); first | done | rfl | (fail))); clear hK K; simp only [Act.put, List.setIfInBounds_toArray, List.set_cons_zero, List.set_cons_succ]))
            refine wpQuiet_nil ?_
            intro wq hcq
            obtain ⟨gq, rfl⟩ := grow_of hcq
            clear hcq
            go_wp2
            go_roundw
            case rel => exact ⟨m, by omega, rfl, by rw [E3.out, bvs_set, E2.out]; exact (hS.put3 _ _ _).grow _⟩
            case measure => simp [intOf]
          · obtain rfl : i = 0 := by omega
            rw [← HD.out] at *
            go_wp2
            exact post_cell (n := 16) Try.results62 (by kernel_rfl) (.inl rfl) _ _ _ _ rfl rfl (by go_simp; first | done | rfl | exact ⟨rfl, rfl⟩) (by first | (rw [← csz_is]; assumption) | rfl) ⟨rfl, (by repeat (first | (with_reducible exact Below.refl _ _) | (with_reducible assumption) | (with_reducible exact grow_below _ _) | (with_reducible exact St.below (by assumption)) | (with_reducible refine below_grow ?_ _) | (with_reducible refine Below.alloc ?_ (by first | omega | (simp; done) | (simp [go_sem]; done) | (simp [go_sem]; omega)) _) | (with_reducible exact (St.put1 (by assumption) _).below) | (with_reducible exact (St.put2 (by assumption) _ _).below) | (with_reducible exact (St.put3 (by assumption) _ _ _).below) | (with_reducible exact (St.put4 (by assumption) _ _ _ _).below) | (with_reducible refine below_put ?_ (by first | omega | (simp [go_sem]; omega)) _ _) | (with_reducible refine Below.drew ?_) | (with_reducible refine Below.setCell ?_ (by first | omega | (simp [go_sem]; omega)) _) | (with_reducible refine below_setRow' ?_ (by first | omega | (simp [go_sem]; omega)) _) | (with_reducible refine below_drewN' ?_ _)))⟩
theorem xorL_at {a b : List UInt8} {i : Nat} (ha : i < a.length) (hb : i < b.length) : (xorL a b).getD i 0 = a.getD i 0 ^^^ b.getD i 0 := by
  simp [xorL, List.getD_eq_getElem?_getD, ha, hb, List.getElem?_zipWith]
set_option maxRecDepth 100000 in
set_option maxHeartbeats 4000000 in
theorem refXor_any (a b : List UInt8) (ha : a.length = 16) (hb : b.length = 16) (w : World) :
    Calls Try.prog 63 #[.agg (bvs a), .agg (bvs b)] w fun e w' => e = .returned (.agg (bvs (xorL a b))) ∧ Below w.heap.size w w' := by
  have s1 : csz (bvs (zs 16)) = 16 := by rw [csz_bvs, zs_len]
  have s2 : csz (bvs a) = 16 := by rw [csz_bvs, ha]
  have s3 : csz (bvs b) = 16 := by rw [csz_bvs, hb]
  have hX := xorL_len a b 16 ha hb
  have HA := hid ha; have HB := hid hb; have HX := hid hX
  have HG := hid (fun i (hi : i < 16) => xorL_at (a := a) (b := b) (i := i) (by rw [ha]; exact hi) (by rw [hb]; exact hi))
  generalize xorL a b = X at *
  have s4 : csz (bvs X) = 16 := by rw [csz_bvs, hX]
  have z := zs16
  clear ha hb hX
  go_enter Try.func63, Try.ntmps63
  go_wp2_with fail
  go_loopw [6, 7] (fun u6 u7 wr => ∃ i : Nat, i ≤ 16 ∧ u6 = .int .i64 i ∧ St w wr [(w.heap.size + 1 + 1 + 1, bvs (fillN (zs 16) X i), 61), (w.heap.size + 1 + 1, bvs (zs 16), 61), (w.heap.size + 1, bvs b, 61), (w.heap.size, bvs a, 61)])
    (fun u6 _ _ => 16 - (intOf u6).toNat)
  case atStart => exact ⟨0, by omega, rfl, by rw [fillN_zero]; exact (St.alloc' (St.alloc' (St.alloc' (St.alloc' (St.start w) (by first | rfl | simp)) (by first | rfl | simp)) (by first | rfl | simp)) (by first | rfl | simp))⟩
  case round =>
    obtain ⟨i, hi, rfl, hS⟩ := hrel
    by_cases hlt : i < 16
    · have ha := bvs_get (l := a) (k := i) (by rw [HA.out]; exact hlt)
      have hb := bvs_get (l := b) (k := i) (by rw [HB.out]; exact hlt)
      have hx := HG.out i hlt
      have H1 := hid (xrS_first HX.out hlt)
      have H2 := hid (xrS_last HX.out hlt)
      have q1 : (i : Int) < 16 := by omega
      go_wp2_with fail
      go_loopw [7] (fun u7 wr => ∃ k : Nat, k ≤ 8 ∧ u7 = .int .i64 ((k : Int) - 1) ∧ St w wr [(w.heap.size + 1 + 1 + 1, bvs (xrS X i k), 61), (w.heap.size + 1 + 1, bvs (zs 16), 61), (w.heap.size + 1, bvs b, 61), (w.heap.size, bvs a, 61)])
        (fun u7 _ => (intOf u7 + 1).toNat)
      case atStart => exact ⟨8, by omega, rfl, by rw [H1.out]; exact hS⟩
      case round =>
        obtain ⟨k, hk, rfl, hS2⟩ := hrel
        obtain ⟨y, rfl, hS2, l1, l2, l3, l4, n1, n2, n3, n4, n5, n6, n7, n8, n9, n10, n11, n12⟩ := hS2.open4
        by_cases h0 : 0 < k
        · obtain ⟨m, rfl⟩ : ∃ m, k = m + 1 := ⟨k - 1, by omega⟩
          rw [show ((m + 1 : Nat) : Int) - 1 = (m : Int) by omega]
          have hg := bvs_get (l := xrS X i (m + 1)) (k := i) (by rw [xrS_len HX.out]; exact hlt)
          rw [xrS_get HX.out hlt] at hg
          have E2 := hid (xrS_step X i m)
          have hbit := hid (xor_bits (a.getD i 0) (b.getD i 0) m)
          rw [← hx] at hbit
          have E3 := hid (out_byte (UInt8.ofNat ((X.getD i 0).toNat / 2 ^ (m + 1))) (tb (X.getD i 0).toNat m) (tb_two _ _))
          clear hx
          generalize UInt8.ofNat ((X.getD i 0).toNat / 2 ^ (m + 1)) = o at *
          generalize tb (X.getD i 0).toNat m = c at *
          generalize a.getD i 0 = a1 at *
          generalize b.getD i 0 = b1 at *
          have hol := o.toNat_lt
          have t1 := tb_two a1.toNat m
          have t2 := tb_two b1.toNat m
          go_wp2_with fail
          refine region_tail_lit (by kernel_rfl) (by kernel_rfl) ?_
          dsimp only [List.dropLast, List.getLast?, List.getLast, Option.getD]
          repeat (first | (refine BigFrame.wpQuiet_skip rfl ?_; simp only [Act.put, List.setIfInBounds_toArray, List.set_cons_zero, List.set_cons_succ]) | (refine BigFrame.wpQuiet_want rfl (fun K hK => ?_); apply Exists.intro; refine ⟨fun w' hw' => ?_, hK _ ?_⟩; (focus (have zw := hw'; obtain ⟨zg, rfl⟩ := grow_of hw'; go_simp; (try (go_bits; go_simp)); first | done | rfl | (go_at_call 78; refine (bit_any _ _ (by omega) _).mono ?_; exact fun e w' ⟨he, hw⟩ => ⟨he, hw ▸ zw⟩))); clear hK K; simp only [Act.put, List.setIfInBounds_toArray, List.set_cons_zero, List.set_cons_succ]))
          refine wpQuiet_nil ?_
          intro wq hcq
          obtain ⟨gq, rfl⟩ := grow_of hcq
          clear hcq
          go_wp2
          go_roundw
          case rel => exact ⟨m, by omega, rfl, by rw [show ((tb a1.toNat m : Nat) : Int) + ((tb b1.toNat m : Nat) : Int) = ((tb a1.toNat m + tb b1.toNat m : Nat) : Int) by omega, show (((tb a1.toNat m + tb b1.toNat m : Nat) : Int) % 2) = (((tb a1.toNat m + tb b1.toNat m) % 2 : Nat) : Int) by omega, hbit.out, E3.out, bvs_set, E2.out]; exact (hS2.put4 _ _ _ _).grow _⟩
          case measure => simp [intOf]
        · obtain rfl : k = 0 := by omega
          rw [H2.out] at *
          go_wp2
          go_roundw
          case rel => exact ⟨i + 1, by omega, by go_num, hS2.put4 _ _ _ _⟩
          case measure => simp [intOf]; omega
    · obtain rfl : i = 16 := by omega
      have e := fillN_all (x := zs 16) (k := 16) (by rw [HX.out, zs_len]) HX.out
      rw [e] at hS
      clear e
      obtain ⟨y, rfl, hS2, l1, l2, l3, l4, n1, n2, n3, n4, n5, n6, n7, n8, n9, n10, n11, n12⟩ := hS.open4
      go_wp2
      exact post_cell (n := 16) Try.results63 (by kernel_rfl) (.inl rfl) _ _ _ _ rfl rfl (by go_simp; first | done | rfl | exact ⟨rfl, rfl⟩) (by first | (rw [← csz_is]; assumption) | rfl) ⟨rfl, (by repeat (first | (with_reducible exact Below.refl _ _) | (with_reducible assumption) | (with_reducible exact grow_below _ _) | (with_reducible exact St.below (by assumption)) | (with_reducible refine below_grow ?_ _) | (with_reducible refine Below.alloc ?_ (by first | omega | (simp; done) | (simp [go_sem]; done) | (simp [go_sem]; omega)) _) | (with_reducible exact (St.put1 (by assumption) _).below) | (with_reducible exact (St.put2 (by assumption) _ _).below) | (with_reducible exact (St.put3 (by assumption) _ _ _).below) | (with_reducible exact (St.put4 (by assumption) _ _ _ _).below) | (with_reducible refine below_put ?_ (by first | omega | (simp [go_sem]; omega)) _ _) | (with_reducible refine Below.drew ?_) | (with_reducible refine Below.setCell ?_ (by first | omega | (simp [go_sem]; omega)) _) | (with_reducible refine below_setRow' ?_ (by first | omega | (simp [go_sem]; omega)) _) | (with_reducible refine below_drewN' ?_ _)))⟩
end Go.Proofs.Ytknkkcbihaojhaa

namespace Go.Proofs.Ytknkkcbihaojhaa
open Go.ChangeShapes Go.WideShapes Go.ChangeAt Go.RowKit
def blockAt (l : List UInt8) (j : Nat) : List UInt8 := (l.drop (16 * j)).take 16
theorem blockAt_len {l : List UInt8} {j : Nat} (h : 16 * j + 16 ≤ l.length) : (blockAt l j).length = 16 := by unfold blockAt; simp; omega
/-- So many blocks, turned each by itself. -/
def headL (f : List UInt8 → List UInt8 → List UInt8) (T : Nat → List UInt8) (l : List UInt8) : Nat → List UInt8
  | 0 => []
  | k + 1 => headL f T l k ++ f (T k) (blockAt l k)
/-- A text turned. -/
def turnL (f : List UInt8 → List UInt8 → List UInt8) (T : Nat → List UInt8) (back : Bool) (l : List UInt8) : List UInt8 :=
  if l.length % 16 = 0 then headL f T l (l.length / 16)
  else
    headL f T l (l.length / 16 - 1) ++
      (f (T (if back then l.length / 16 - 1 else l.length / 16)) (l.drop (16 * (l.length / 16)) ++ (f (T (if back then l.length / 16 else l.length / 16 - 1)) (blockAt l (l.length / 16 - 1))).drop (l.length % 16)) ++
        (f (T (if back then l.length / 16 else l.length / 16 - 1)) (blockAt l (l.length / 16 - 1))).take (l.length % 16))
/-- It keeps a block's length. -/
def Wide (f : List UInt8 → List UInt8 → List UInt8) (T : Nat → List UInt8) : Prop := ∀ j x, x.length = 16 → (f (T j) x).length = 16
theorem headL_len {f : List UInt8 → List UInt8 → List UInt8} {T : Nat → List UInt8} (hf : Wide f T) {l : List UInt8} : ∀ k, 16 * k ≤ l.length → (headL f T l k).length = 16 * k
  | 0, _ => rfl
  | k + 1, h => by
    have ih := headL_len hf (l := l) k (by omega)
    simp only [headL, List.length_append]
    rw [ih, hf k _ (blockAt_len (by omega))]
    omega
theorem headL_block {f : List UInt8 → List UInt8 → List UInt8} {T : Nat → List UInt8} (hf : Wide f T) {l : List UInt8} : ∀ (k : Nat) (rest : List UInt8), 16 * k ≤ l.length → ∀ j, j < k → blockAt (headL f T l k ++ rest) j = f (T j) (blockAt l j)
  | k + 1, rest, h, j, hj => by
    have h1 := headL_len hf (l := l) k (by omega)
    have h2 := hf k (blockAt l k) (blockAt_len (by omega))
    rw [headL, List.append_assoc]
    by_cases e : j < k
    · exact headL_block hf k _ (by omega) j e
    · obtain rfl : j = k := by omega
      unfold blockAt at h2 ⊢
      rw [List.drop_append_of_le_length (by omega), List.drop_of_length_le (by omega), List.nil_append]
      exact (List.take_append_of_le_length (by omega)).trans (List.take_of_length_le (by omega))
theorem take_block {l : List UInt8} {k : Nat} : l.take (16 * k) ++ blockAt l k = l.take (16 * (k + 1)) := by
  unfold blockAt
  rw [show 16 * (k + 1) = 16 * k + 16 by omega, List.take_add]
/-- What is turned and turned back, block by block. -/
theorem headL_back {f g : List UInt8 → List UInt8 → List UInt8} {T : Nat → List UInt8} (hf : Wide f T) (hg : ∀ j x, x.length = 16 → g (T j) (f (T j) x) = x) {l : List UInt8} {k : Nat} (rest : List UInt8) (hk : 16 * k ≤ l.length) :
    ∀ n, n ≤ k → headL g T (headL f T l k ++ rest) n = l.take (16 * n)
  | 0, _ => by simp [headL]
  | n + 1, h => by
    rw [headL, headL_back hf hg rest hk n (by omega), headL_block hf k rest hk n (by omega), hg n _ (blockAt_len (by omega)), take_block]
theorem turnL_len {f : List UInt8 → List UInt8 → List UInt8} {T : Nat → List UInt8} (hf : Wide f T) (back : Bool) {l : List UInt8} (h16 : 16 ≤ l.length) : (turnL f T back l).length = l.length := by
  unfold turnL
  split
  · rw [headL_len hf _ (by omega)]; omega
  · obtain ⟨a, ha⟩ : ∃ a, a = (if back then l.length / 16 else l.length / 16 - 1) := ⟨_, rfl⟩
    obtain ⟨b, hb⟩ : ∃ b, b = (if back then l.length / 16 - 1 else l.length / 16) := ⟨_, rfl⟩
    rw [← ha, ← hb]
    have h1 := hf a _ (blockAt_len (l := l) (j := l.length / 16 - 1) (by omega))
    generalize f (T a) (blockAt l (l.length / 16 - 1)) = c at *
    have h2 := hf b (l.drop (16 * (l.length / 16)) ++ c.drop (l.length % 16)) (by simp; omega)
    rw [List.length_append, List.length_append, headL_len hf _ (by omega), h2, List.length_take]
    omega
theorem turnL_back {f g : List UInt8 → List UInt8 → List UInt8} {T : Nat → List UInt8} (hf : Wide f T) (hg : ∀ j x, x.length = 16 → g (T j) (f (T j) x) = x) (back : Bool) {l : List UInt8} (h16 : 16 ≤ l.length) :
    turnL g T (!back) (turnL f T back l) = l := by
  have hlen := turnL_len hf back h16
  obtain ⟨out, ho⟩ : ∃ out, out = turnL f T back l := ⟨_, rfl⟩
  rw [← ho] at hlen ⊢
  obtain ⟨m, hm⟩ : ∃ m, m = l.length / 16 := ⟨_, rfl⟩
  obtain ⟨r, hr⟩ : ∃ r, r = l.length % 16 := ⟨_, rfl⟩
  have hl : l.length = 16 * m + r := by omega
  unfold turnL at ho ⊢
  rw [hlen, ← hm, ← hr]
  rw [← hm, ← hr] at ho
  by_cases h0 : r = 0
  · rw [if_pos h0] at ho ⊢
    have h1 := headL_back (l := l) hf hg (k := m) [] (by omega) m (Nat.le_refl _)
    rw [List.append_nil] at h1
    rw [ho, h1, List.take_of_length_le (by omega)]
  · rw [if_neg h0] at ho ⊢
    obtain ⟨a, ha⟩ : ∃ a, a = (if back then m else m - 1) := ⟨_, rfl⟩
    obtain ⟨b, hb⟩ : ∃ b, b = (if back then m - 1 else m) := ⟨_, rfl⟩
    have ha' : (if (!back) = true then m - 1 else m) = a := by cases back <;> simp [ha]
    have hb' : (if (!back) = true then m else m - 1) = b := by cases back <;> simp [hb]
    rw [← ha, ← hb] at ho
    rw [ha', hb']
    have hB := blockAt_len (l := l) (j := m - 1) (by omega)
    have hga := hg a _ hB
    have h1 := hf a _ hB
    obtain ⟨c, hc⟩ : ∃ c, c = f (T a) (blockAt l (m - 1)) := ⟨_, rfl⟩
    rw [← hc] at h1 hga ho
    have hxl : (l.drop (16 * m) ++ c.drop r).length = 16 := by simp; omega
    have h2 := hf b _ hxl
    have hgb := hg b _ hxl
    obtain ⟨d, hd⟩ : ∃ d, d = f (T b) (l.drop (16 * m) ++ c.drop r) := ⟨_, rfl⟩
    rw [← hd] at h2 hgb ho
    have hH := headL_len hf (l := l) (m - 1) (by omega)
    -- what the turned text's parts are
    have o1 : headL g T out (m - 1) = l.take (16 * (m - 1)) := by rw [ho]; exact headL_back hf hg _ (by omega) _ (Nat.le_refl _)
    have o2 : blockAt out (m - 1) = d := by
      rw [ho]; unfold blockAt
      rw [List.drop_append_of_le_length (by omega), List.drop_of_length_le (by omega), List.nil_append]
      exact (List.take_append_of_le_length (by omega)).trans (List.take_of_length_le (by omega))
    have o3 : out.drop (16 * m) = c.take r := by
      rw [ho, ← List.append_assoc, List.drop_append_of_le_length (by rw [List.length_append]; omega), List.drop_of_length_le (by rw [List.length_append]; omega), List.nil_append]
    rw [o1, o2, o3, hgb]
    have hdl : (l.drop (16 * m)).length = r := by simp; omega
    have e1 : (l.drop (16 * m) ++ c.drop r).drop r = c.drop r := by
      rw [List.drop_append_of_le_length (by omega), List.drop_of_length_le (by omega), List.nil_append]
    have e2 : (l.drop (16 * m) ++ c.drop r).take r = l.drop (16 * m) := by
      rw [List.take_append_of_le_length (by omega), List.take_of_length_le (by omega)]
    rw [e1, e2, List.take_append_drop, hga, ← List.append_assoc, take_block, show m - 1 + 1 = m by omega, List.take_append_drop]
/-- Each block is turned by itself. -/
theorem headL_same {f g : List UInt8 → List UInt8 → List UInt8} {T : Nat → List UInt8} (hf : Wide f T) (hg : ∀ j x, x.length = 16 → g (T j) (f (T j) x) = x) {l l' : List UInt8} {m i : Nat} (hl : 16 * m ≤ l.length) (hl' : 16 * m ≤ l'.length) (hi : i < m) :
    blockAt (headL f T l m) i = blockAt (headL f T l' m) i ↔ blockAt l i = blockAt l' i := by
  have h1 := headL_block hf m [] hl i hi
  have h2 := headL_block hf m [] hl' i hi
  rw [List.append_nil] at h1 h2
  rw [h1, h2]
  refine ⟨fun h => ?_, fun h => by rw [h]⟩
  have := congrArg (g (T i)) h
  rwa [hg i _ (blockAt_len (by omega)), hg i _ (blockAt_len (by omega))] at this
theorem block_set {l : List UInt8} {k : Nat} {b : UInt8} (hk : k < l.length) (hb : b ≠ l.getD k 0) {i : Nat} : blockAt (l.set k b) i = blockAt l i ↔ k / 16 ≠ i := by
  unfold blockAt
  constructor
  · rintro h rfl
    have h1 := congrArg (·[k % 16]?) h
    simp only [List.getElem?_take, if_pos (Nat.mod_lt k (by decide : 0 < 16)), List.getElem?_drop] at h1
    rw [Nat.div_add_mod, List.getElem?_set_self hk, List.getElem?_eq_getElem hk, Option.some.injEq] at h1
    apply hb
    rw [List.getD_eq_getElem?_getD, List.getElem?_eq_getElem hk]
    exact h1
  · intro h
    apply List.ext_getElem?
    intro j
    simp only [List.getElem?_take, List.getElem?_drop]
    split
    · rw [List.getElem?_set_ne (by omega)]
    · rfl
end Go.Proofs.Ytknkkcbihaojhaa

namespace Go.Proofs.Ytknkkcbihaojhaa
open Go.ChangeShapes Go.WideShapes Go.ChangeAt Go.RowKit
/-- A block doubled so many times. -/
def dblIt (x : List UInt8) : Nat → List UInt8
  | 0 => x
  | j + 1 => dblB (dblIt x j)
theorem dblIt_zero (x : List UInt8) : dblIt x 0 = x := rfl
theorem dblIt_succ (x : List UInt8) (j : Nat) : dblIt x (j + 1) = dblB (dblIt x j) := rfl
theorem dblIt_len {x : List UInt8} (h : x.length = 16) : ∀ j, (dblIt x j).length = 16
  | 0 => h
  | _ + 1 => dblB_len _
/-- The tweak of block j of a sector. -/
def tweakV (key : List UInt8) (n j : Nat) : List UInt8 := dblIt (sealV key (leB n 8 ++ zs 8)) j
theorem tweakV_zero (key : List UInt8) (n : Nat) : tweakV key n 0 = sealV key (leB n 8 ++ zs 8) := rfl
theorem tweakV_succ (key : List UInt8) (n j : Nat) : tweakV key n (j + 1) = dblB (tweakV key n j) := rfl
theorem tweakV_it (key : List UInt8) (n j : Nat) : tweakV key n j = dblIt (tweakV key n 0) j := rfl
theorem num_len (n : Nat) : (leB n 8 ++ zs 8).length = 16 := by rw [List.length_append, leB_len, zs_len]
theorem tweakV_len {key : List UInt8} (h : key.length = 16 ∨ key.length = 32) (n j : Nat) : (tweakV key n j).length = 16 := dblIt_len (sealV_len h (num_len n)) j
/-- A block hidden, or shown, with a tweak. -/
def hideB (key t x : List UInt8) : List UInt8 := xorL (sealV key (xorL x t)) t
def showB (key t x : List UInt8) : List UInt8 := xorL (openV key (xorL x t)) t
theorem hideB_len {key t x : List UInt8} (h : key.length = 16 ∨ key.length = 32) (ht : t.length = 16) (hx : x.length = 16) : (hideB key t x).length = 16 := xorL_len _ _ 16 (sealV_len h (xorL_len _ _ 16 hx ht)) ht
theorem showB_len {key t x : List UInt8} (h : key.length = 16 ∨ key.length = 32) (ht : t.length = 16) (hx : x.length = 16) : (showB key t x).length = 16 := xorL_len _ _ 16 (openV_len h (xorL_len _ _ 16 hx ht)) ht
theorem open_seal {key x : List UInt8} (h : key.length = 16 ∨ key.length = 32) (hx : x.length = 16) : openV key (sealV key x) = x := dec_enc_all (rkeys_16 h) hx
theorem seal_open {key x : List UInt8} (h : key.length = 16 ∨ key.length = 32) (hx : x.length = 16) : sealV key (openV key x) = x := enc_dec_all (rkeys_16 h) hx
theorem show_hide {key t x : List UInt8} (h : key.length = 16 ∨ key.length = 32) (ht : t.length = 16) (hx : x.length = 16) : showB key t (hideB key t x) = x := by
  unfold showB hideB
  rw [xorL_twice (by rw [sealV_len h (xorL_len _ _ 16 hx ht), ht]), open_seal h (xorL_len _ _ 16 hx ht), xorL_twice (by rw [hx, ht])]
theorem hide_show {key t x : List UInt8} (h : key.length = 16 ∨ key.length = 32) (ht : t.length = 16) (hx : x.length = 16) : hideB key t (showB key t x) = x := by
  unfold showB hideB
  rw [xorL_twice (by rw [openV_len h (xorL_len _ _ 16 hx ht), ht]), seal_open h (xorL_len _ _ 16 hx ht), xorL_twice (by rw [hx, ht])]
/-- A text hidden, or shown: the key's halves. -/
def hideV (key : List UInt8) (n : Nat) (l : List UInt8) : List UInt8 := turnL (hideB (key.take (key.length / 2))) (tweakV (key.drop (key.length / 2)) n) false l
def showV (key : List UInt8) (n : Nat) (l : List UInt8) : List UInt8 := turnL (showB (key.take (key.length / 2))) (tweakV (key.drop (key.length / 2)) n) true l
theorem halves_len {key : List UInt8} (h : key.length = 32 ∨ key.length = 64) : ((key.take (key.length / 2)).length = 16 ∨ (key.take (key.length / 2)).length = 32) ∧ ((key.drop (key.length / 2)).length = 16 ∨ (key.drop (key.length / 2)).length = 32) := by
  simp; omega
theorem hide_wide {key : List UInt8} (h : key.length = 32 ∨ key.length = 64) (n : Nat) : Wide (hideB (key.take (key.length / 2))) (tweakV (key.drop (key.length / 2)) n) := fun j _ hx => hideB_len (halves_len h).1 (tweakV_len (halves_len h).2 n j) hx
theorem show_wide {key : List UInt8} (h : key.length = 32 ∨ key.length = 64) (n : Nat) : Wide (showB (key.take (key.length / 2))) (tweakV (key.drop (key.length / 2)) n) := fun j _ hx => showB_len (halves_len h).1 (tweakV_len (halves_len h).2 n j) hx
theorem hideV_len {key : List UInt8} (h : key.length = 32 ∨ key.length = 64) (n : Nat) {l : List UInt8} (hl : 16 ≤ l.length) : (hideV key n l).length = l.length := turnL_len (hide_wide h n) false hl
theorem showV_len {key : List UInt8} (h : key.length = 32 ∨ key.length = 64) (n : Nat) {l : List UInt8} (hl : 16 ≤ l.length) : (showV key n l).length = l.length := turnL_len (show_wide h n) true hl
theorem showV_hideV {key : List UInt8} (h : key.length = 32 ∨ key.length = 64) (n : Nat) {l : List UInt8} (hl : 16 ≤ l.length) : showV key n (hideV key n l) = l :=
  turnL_back (hide_wide h n) (fun j _ hx => show_hide (halves_len h).1 (tweakV_len (halves_len h).2 n j) hx) false hl
theorem hideV_showV {key : List UInt8} (h : key.length = 32 ∨ key.length = 64) (n : Nat) {l : List UInt8} (hl : 16 ≤ l.length) : hideV key n (showV key n l) = l :=
  turnL_back (show_wide h n) (fun j _ hx => hide_show (halves_len h).1 (tweakV_len (halves_len h).2 n j) hx) true hl
/-- The fixed fact ahead of all these laws. -/
theorem alive_is : (hideV (zs 32) 0 (zs 32)).getD 0 0 = 0x91 ∧ (hideV (zs 32) 0 (zs 32)).getD 31 0 = 0x2e := by decide +kernel
attribute [irreducible] dblIt tweakV hideB showB hideV showV
end Go.Proofs.Ytknkkcbihaojhaa

namespace Go.Proofs.Ytknkkcbihaojhaa
open Go.ChangeShapes Go.WideShapes Go.ChangeAt Go.RowKit
attribute [local irreducible] xorL sboxL subB sealV openV
/-- A whole number as a number without a sign. -/
def u64N (n : Int) : Nat := (n % 18446744073709551616).toNat
theorem u64N_is (n : Int) : IntKind.u64.wrap n = (u64N n : Int) := by rw [IntKind.wrap_u64]; unfold u64N; omega
theorem u64N_lt (n : Int) : u64N n < 18446744073709551616 := by unfold u64N; omega
theorem u64N_zero : u64N 0 = 0 := by unfold u64N; rfl
attribute [irreducible] u64N
theorem num_ovw (N : Nat) : ovw (bvs (zs 16)) 0 (leB N 8) = bvs (leB N 8 ++ zs 8) := by
  rw [ovw_bvs, leB_len, List.take_zero, List.nil_append]
  congr 2
  unfold zs
  rfl
set_option maxRecDepth 100000 in
set_option maxHeartbeats 1000000 in
theorem tweak_any (key : List UInt8) (n : Int) (v : Value) (w : World) (X : Value) (R : List UInt8) (hR : R.length = 16) (hv : BytesAt w v key)
    (hseal : ∀ w', BytesAt w' v key → Calls Try.prog 65 #[v, .agg (bvs (leB (u64N n) 8 ++ zs 8))] w' fun e w2 => e = .returned (.tuple #[.agg (bvs R), X]) ∧ Below w'.heap.size w' w2) :
    Calls Try.prog 41 #[v, .int .i64 n] w fun e w' => e = .returned (.tuple #[.agg (bvs R), X]) ∧ Below w.heap.size w w' := by
  have s1 : csz (bvs (zs 16)) = 16 := by rw [csz_bvs, zs_len]
  have s2 : csz (bvs (leB (u64N n) 8 ++ zs 8)) = 16 := by rw [csz_bvs, num_len]
  have s3 : csz (bvs R) = 16 := by rw [csz_bvs, hR]
  have z := zs16; have e0 := zs_ne
  have E0 := hid (u64N_is n)
  have E1 := hid (num_ovw (u64N n))
  have HV := hid hv; have HS := hid hseal
  clear hv hseal hR
  generalize u64N n = N at *
  go_enter Try.func41, Try.ntmps41
  go_wp2_with fail
  rw [E0.out]
  (with_reducible refine (putLittle_any _ _ _ _ (bvs (zs 16)) _ _ _ (by go_simp; first | done | rfl | exact ⟨rfl, rfl⟩) (by rw [s1]; omega) (by omega) (by unfold maxLen; omega)).mono ?_)
  rintro e w1 ⟨rfl, rfl⟩
  rw [E1.out]
  go_wp2_with fail
  (with_reducible refine (HS.out _ (HV.out.below (by repeat (first | (with_reducible exact Below.refl _ _) | (with_reducible assumption) | (with_reducible exact grow_below _ _) | (with_reducible exact St.below (by assumption)) | (with_reducible refine below_grow ?_ _) | (with_reducible refine Below.alloc ?_ (by first | omega | (simp; done) | (simp [go_sem]; done) | (simp [go_sem]; omega)) _) | (with_reducible exact (St.put1 (by assumption) _).below) | (with_reducible exact (St.put2 (by assumption) _ _).below) | (with_reducible exact (St.put3 (by assumption) _ _ _).below) | (with_reducible exact (St.put4 (by assumption) _ _ _ _).below) | (with_reducible refine below_put ?_ (by first | omega | (simp [go_sem]; omega)) _ _) | (with_reducible refine Below.drew ?_) | (with_reducible refine Below.setCell ?_ (by first | omega | (simp [go_sem]; omega)) _) | (with_reducible refine below_setRow' ?_ (by first | omega | (simp [go_sem]; omega)) _) | (with_reducible refine below_drewN' ?_ _))))).mono ?_)
  rintro e wg ⟨rfl, hb⟩
  obtain ⟨g1, rfl⟩ := grow_of hb
  clear hb
  go_wp2
  exact post_cell_tmp (n := 16) Try.results41 (by kernel_rfl) (.inl rfl) _ _ _ _ rfl rfl (by go_simp; first | done | rfl | exact ⟨rfl, rfl⟩) (by first | (rw [← csz_is]; assumption) | rfl) ⟨rfl, (by repeat (first | (with_reducible exact Below.refl _ _) | (with_reducible assumption) | (with_reducible exact grow_below _ _) | (with_reducible exact St.below (by assumption)) | (with_reducible refine below_grow ?_ _) | (with_reducible refine Below.alloc ?_ (by first | omega | (simp; done) | (simp [go_sem]; done) | (simp [go_sem]; omega)) _) | (with_reducible exact (St.put1 (by assumption) _).below) | (with_reducible exact (St.put2 (by assumption) _ _).below) | (with_reducible exact (St.put3 (by assumption) _ _ _).below) | (with_reducible exact (St.put4 (by assumption) _ _ _ _).below) | (with_reducible refine below_put ?_ (by first | omega | (simp [go_sem]; omega)) _ _) | (with_reducible refine Below.drew ?_) | (with_reducible refine Below.setCell ?_ (by first | omega | (simp [go_sem]; omega)) _) | (with_reducible refine below_setRow' ?_ (by first | omega | (simp [go_sem]; omega)) _) | (with_reducible refine below_drewN' ?_ _)))⟩
theorem tweak_good (key : List UInt8) (h : key.length = 16 ∨ key.length = 32) (n : Int) (v : Value) (w : World) (hv : BytesAt w v key) :
    Calls Try.prog 41 #[v, .int .i64 n] w fun e w' => e = .returned (.tuple #[.agg (bvs (tweakV key (u64N n) 0)), .nilIface]) ∧ Below w.heap.size w w' := by
  have e : tweakV key (u64N n) 0 = sealV key (leB (u64N n) 8 ++ zs 8) := tweakV_zero _ _
  rw [e]
  exact tweak_any key n v w _ _ (sealV_len h (num_len _)) hv fun w' hv' => seal_good key _ h (num_len _) v w' hv'
theorem tweak_bad (key : List UInt8) (h : ¬ (key.length = 16 ∨ key.length = 32)) (hm : key.length ≤ maxLen) (n : Int) (v : Value) (w : World) (hv : BytesAt w v key) :
    Calls Try.prog 41 #[v, .int .i64 n] w fun e w' => e = .returned (.tuple #[.agg (bvs (zs 16)), .iface 44 (.int .i64 3)]) ∧ Below w.heap.size w w' :=
  tweak_any key n v w _ _ (zs_len 16) hv fun w' hv' => seal_bad key _ h hm (num_len _) v w' hv'
set_option maxRecDepth 100000 in
set_option maxHeartbeats 1000000 in
theorem hideBlock_good (key t x : List UInt8) (h : key.length = 16 ∨ key.length = 32) (ht : t.length = 16) (hx : x.length = 16) (v : Value) (w : World) (hv : BytesAt w v key) :
    Calls Try.prog 43 #[v, .agg (bvs t), .agg (bvs x)] w fun e w' => e = .returned (.tuple #[.agg (bvs (hideB key t x)), .nilIface]) ∧ Below w.heap.size w w' := by
  have hX := xorL_len _ _ 16 hx ht
  have HS := hid (fun w' (hv' : BytesAt w' v key) => seal_good key _ h hX v w' hv')
  have hR : (sealV key (xorL x t)).length = 16 := sealV_len h hX
  have H1 := hid (xor_any x t hx ht)
  have H2 := hid (xor_any _ t hR ht)
  have E := hid (show xorL (sealV key (xorL x t)) t = hideB key t x by unfold hideB; rfl)
  rw [E.out] at H2
  have s1 : csz (bvs (zs 16)) = 16 := by rw [csz_bvs, zs_len]
  have s2 : csz (bvs t) = 16 := by rw [csz_bvs, ht]
  have s3 : csz (bvs x) = 16 := by rw [csz_bvs, hx]
  have s4 : csz (bvs (hideB key t x)) = 16 := by rw [csz_bvs, hideB_len h ht hx]
  have s5 : csz (bvs (sealV key (xorL x t))) = 16 := by rw [csz_bvs, hR]
  have z := zs16; have e0 := zs_ne
  have HV := hid hv
  clear hv hX hR h ht hx E
  go_enter Try.func43, Try.ntmps43
  go_wp2_with fail
  (with_reducible refine (H1.out _).mono ?_)
  rintro e wg ⟨rfl, hb⟩
  obtain ⟨g1, rfl⟩ := grow_of hb
  clear hb
  go_wp2_with fail
  (with_reducible refine (HS.out _ (HV.out.below (by repeat (first | (with_reducible exact Below.refl _ _) | (with_reducible assumption) | (with_reducible exact grow_below _ _) | (with_reducible exact St.below (by assumption)) | (with_reducible refine below_grow ?_ _) | (with_reducible refine Below.alloc ?_ (by first | omega | (simp; done) | (simp [go_sem]; done) | (simp [go_sem]; omega)) _) | (with_reducible exact (St.put1 (by assumption) _).below) | (with_reducible exact (St.put2 (by assumption) _ _).below) | (with_reducible exact (St.put3 (by assumption) _ _ _).below) | (with_reducible exact (St.put4 (by assumption) _ _ _ _).below) | (with_reducible refine below_put ?_ (by first | omega | (simp [go_sem]; omega)) _ _) | (with_reducible refine Below.drew ?_) | (with_reducible refine Below.setCell ?_ (by first | omega | (simp [go_sem]; omega)) _) | (with_reducible refine below_setRow' ?_ (by first | omega | (simp [go_sem]; omega)) _) | (with_reducible refine below_drewN' ?_ _))))).mono ?_)
  rintro e wg ⟨rfl, hb⟩
  obtain ⟨g2, rfl⟩ := grow_of hb
  clear hb
  go_wp2_with fail
  (with_reducible refine (H2.out _).mono ?_)
  rintro e wg ⟨rfl, hb⟩
  obtain ⟨g3, rfl⟩ := grow_of hb
  clear hb
  go_wp2
  exact post_cell_tmp (n := 16) Try.results43 (by kernel_rfl) (.inl rfl) _ _ _ _ rfl rfl (by go_simp; first | done | rfl | exact ⟨rfl, rfl⟩) (by first | (rw [← csz_is]; assumption) | rfl) ⟨rfl, (by repeat (first | (with_reducible exact Below.refl _ _) | (with_reducible assumption) | (with_reducible exact grow_below _ _) | (with_reducible exact St.below (by assumption)) | (with_reducible refine below_grow ?_ _) | (with_reducible refine Below.alloc ?_ (by first | omega | (simp; done) | (simp [go_sem]; done) | (simp [go_sem]; omega)) _) | (with_reducible exact (St.put1 (by assumption) _).below) | (with_reducible exact (St.put2 (by assumption) _ _).below) | (with_reducible exact (St.put3 (by assumption) _ _ _).below) | (with_reducible exact (St.put4 (by assumption) _ _ _ _).below) | (with_reducible refine below_put ?_ (by first | omega | (simp [go_sem]; omega)) _ _) | (with_reducible refine Below.drew ?_) | (with_reducible refine Below.setCell ?_ (by first | omega | (simp [go_sem]; omega)) _) | (with_reducible refine below_setRow' ?_ (by first | omega | (simp [go_sem]; omega)) _) | (with_reducible refine below_drewN' ?_ _)))⟩
set_option maxRecDepth 100000 in
set_option maxHeartbeats 1000000 in
theorem hideBlock_bad (key t x : List UInt8) (h : ¬ (key.length = 16 ∨ key.length = 32)) (hm : key.length ≤ maxLen) (ht : t.length = 16) (hx : x.length = 16) (v : Value) (w : World) (hv : BytesAt w v key) :
    Calls Try.prog 43 #[v, .agg (bvs t), .agg (bvs x)] w fun e w' => e = .returned (.tuple #[.agg (bvs (zs 16)), .iface 44 (.int .i64 3)]) ∧ Below w.heap.size w w' := by
  have hX := xorL_len _ _ 16 hx ht
  have HS := hid (fun w' (hv' : BytesAt w' v key) => seal_bad key _ h hm hX v w' hv')
  have H1 := hid (xor_any x t hx ht)
  have s1 : csz (bvs (zs 16)) = 16 := by rw [csz_bvs, zs_len]
  have s2 : csz (bvs t) = 16 := by rw [csz_bvs, ht]
  have s3 : csz (bvs x) = 16 := by rw [csz_bvs, hx]
  have z := zs16; have e0 := zs_ne
  have HV := hid hv
  clear hv hX h ht hx
  go_enter Try.func43, Try.ntmps43
  go_wp2_with fail
  (with_reducible refine (H1.out _).mono ?_)
  rintro e wg ⟨rfl, hb⟩
  obtain ⟨g1, rfl⟩ := grow_of hb
  clear hb
  go_wp2_with fail
  (with_reducible refine (HS.out _ (HV.out.below (by repeat (first | (with_reducible exact Below.refl _ _) | (with_reducible assumption) | (with_reducible exact grow_below _ _) | (with_reducible exact St.below (by assumption)) | (with_reducible refine below_grow ?_ _) | (with_reducible refine Below.alloc ?_ (by first | omega | (simp; done) | (simp [go_sem]; done) | (simp [go_sem]; omega)) _) | (with_reducible exact (St.put1 (by assumption) _).below) | (with_reducible exact (St.put2 (by assumption) _ _).below) | (with_reducible exact (St.put3 (by assumption) _ _ _).below) | (with_reducible exact (St.put4 (by assumption) _ _ _ _).below) | (with_reducible refine below_put ?_ (by first | omega | (simp [go_sem]; omega)) _ _) | (with_reducible refine Below.drew ?_) | (with_reducible refine Below.setCell ?_ (by first | omega | (simp [go_sem]; omega)) _) | (with_reducible refine below_setRow' ?_ (by first | omega | (simp [go_sem]; omega)) _) | (with_reducible refine below_drewN' ?_ _))))).mono ?_)
  rintro e wg ⟨rfl, hb⟩
  obtain ⟨g2, rfl⟩ := grow_of hb
  clear hb
  go_wp2
  exact post_cell_tmp (n := 16) Try.results43 (by kernel_rfl) (.inl rfl) _ _ _ _ rfl rfl (by go_simp; first | done | rfl | exact ⟨rfl, rfl⟩) (by first | (rw [← csz_is]; assumption) | rfl) ⟨rfl, (by repeat (first | (with_reducible exact Below.refl _ _) | (with_reducible assumption) | (with_reducible exact grow_below _ _) | (with_reducible exact St.below (by assumption)) | (with_reducible refine below_grow ?_ _) | (with_reducible refine Below.alloc ?_ (by first | omega | (simp; done) | (simp [go_sem]; done) | (simp [go_sem]; omega)) _) | (with_reducible exact (St.put1 (by assumption) _).below) | (with_reducible exact (St.put2 (by assumption) _ _).below) | (with_reducible exact (St.put3 (by assumption) _ _ _).below) | (with_reducible exact (St.put4 (by assumption) _ _ _ _).below) | (with_reducible refine below_put ?_ (by first | omega | (simp [go_sem]; omega)) _ _) | (with_reducible refine Below.drew ?_) | (with_reducible refine Below.setCell ?_ (by first | omega | (simp [go_sem]; omega)) _) | (with_reducible refine below_setRow' ?_ (by first | omega | (simp [go_sem]; omega)) _) | (with_reducible refine below_drewN' ?_ _)))⟩
theorem refSeal_any (key x : List UInt8) (_h : key.length = 16 ∨ key.length = 32) (hx : x.length = 16) (hm : key.length ≤ 100000) (v : Value) (w : World) (hr : RowsAt w 16 v (rkeys key)) :
    Calls Try.prog 36 #[v, .agg (bvs x)] w fun e w' => e = .returned (.agg (bvs (sealV key x))) ∧ Below w.heap.size w w' := by
  unfold sealV
  exact refEncrypt_any (rkeys key) x hx v w (keysAt_rows hr) (by rw [rkeys_len]; omega)
set_option maxRecDepth 100000 in
set_option maxHeartbeats 1000000 in
theorem refBlock_any (key t x : List UInt8) (h : key.length = 16 ∨ key.length = 32) (ht : t.length = 16) (hx : x.length = 16) (v : Value) (w : World) (hr : RowsAt w 16 v (rkeys key)) :
    Calls Try.prog 40 #[v, .agg (bvs t), .agg (bvs x)] w fun e w' => e = .returned (.agg (bvs (hideB key t x))) ∧ Below w.heap.size w w' := by
  have hX := xorL_len _ _ 16 hx ht
  have HS := hid (fun w' (hv' : RowsAt w' 16 v (rkeys key)) => refSeal_any key _ h hX (by omega) v w' hv')
  have hR : (sealV key (xorL x t)).length = 16 := sealV_len h hX
  have H1 := hid (refXor_any x t hx ht)
  have H2 := hid (refXor_any _ t hR ht)
  have E := hid (show xorL (sealV key (xorL x t)) t = hideB key t x by unfold hideB; rfl)
  rw [E.out] at H2
  have s1 : csz (bvs (zs 16)) = 16 := by rw [csz_bvs, zs_len]
  have s2 : csz (bvs t) = 16 := by rw [csz_bvs, ht]
  have s3 : csz (bvs x) = 16 := by rw [csz_bvs, hx]
  have s4 : csz (bvs (hideB key t x)) = 16 := by rw [csz_bvs, hideB_len h ht hx]
  have z := zs16; have e0 := zs_ne
  have HV := hid hr
  clear hr hX hR h ht hx E
  go_enter Try.func40, Try.ntmps40
  go_wp2_with fail
  refine region_tail_lit (by kernel_rfl) (by kernel_rfl) ?_
  dsimp only [List.dropLast, List.getLast?, List.getLast, Option.getD]
  repeat (first | (refine BigFrame.wpQuiet_skip rfl ?_; simp only [Act.put, List.setIfInBounds_toArray, List.set_cons_zero, List.set_cons_succ]) | (refine BigFrame.wpQuiet_want rfl (fun K hK => ?_); apply Exists.intro; refine ⟨fun w' hw' => ?_, hK _ ?_⟩; (focus (have zw := hw'; obtain ⟨zg, rfl⟩ := grow_of hw'; go_simp; (try (go_bits; go_simp)); first | done | rfl | (first | ((with_reducible refine (H1.out _).mono fun e w2 h2 => ⟨h2.1, zw.step h2.2⟩)) | ((with_reducible refine (HS.out _ ?_).mono fun e w2 h2 => ⟨h2.1, zw.step h2.2⟩); exact HV.out.below (by repeat (first | (with_reducible exact Below.refl _ _) | (with_reducible assumption) | (with_reducible exact grow_below _ _) | (with_reducible exact St.below (by assumption)) | (with_reducible refine below_grow ?_ _) | (with_reducible refine Below.alloc ?_ (by first | omega | (simp; done) | (simp [go_sem]; done) | (simp [go_sem]; omega)) _) | (with_reducible exact (St.put1 (by assumption) _).below) | (with_reducible exact (St.put2 (by assumption) _ _).below) | (with_reducible exact (St.put3 (by assumption) _ _ _).below) | (with_reducible exact (St.put4 (by assumption) _ _ _ _).below) | (with_reducible refine below_put ?_ (by first | omega | (simp [go_sem]; omega)) _ _) | (with_reducible refine Below.drew ?_) | (with_reducible refine Below.setCell ?_ (by first | omega | (simp [go_sem]; omega)) _) | (with_reducible refine below_setRow' ?_ (by first | omega | (simp [go_sem]; omega)) _) | (with_reducible refine below_drewN' ?_ _)))) | ((with_reducible refine (H2.out _).mono fun e w2 h2 => ⟨h2.1, zw.step h2.2⟩))))); clear hK K; simp only [Act.put, List.setIfInBounds_toArray, List.set_cons_zero, List.set_cons_succ]))
  refine wpQuiet_nil ?_
  intro wq hcq
  obtain ⟨gq, rfl⟩ := grow_of hcq
  clear hcq
  go_wp2
  exact post_cell (n := 16) Try.results40 (by kernel_rfl) (.inl rfl) _ _ _ _ rfl rfl (by go_simp; first | done | rfl | exact ⟨rfl, rfl⟩) (by first | (rw [← csz_is]; assumption) | rfl) ⟨rfl, (by repeat (first | (with_reducible exact Below.refl _ _) | (with_reducible assumption) | (with_reducible exact grow_below _ _) | (with_reducible exact St.below (by assumption)) | (with_reducible refine below_grow ?_ _) | (with_reducible refine Below.alloc ?_ (by first | omega | (simp; done) | (simp [go_sem]; done) | (simp [go_sem]; omega)) _) | (with_reducible exact (St.put1 (by assumption) _).below) | (with_reducible exact (St.put2 (by assumption) _ _).below) | (with_reducible exact (St.put3 (by assumption) _ _ _).below) | (with_reducible exact (St.put4 (by assumption) _ _ _ _).below) | (with_reducible refine below_put ?_ (by first | omega | (simp [go_sem]; omega)) _ _) | (with_reducible refine Below.drew ?_) | (with_reducible refine Below.setCell ?_ (by first | omega | (simp [go_sem]; omega)) _) | (with_reducible refine below_setRow' ?_ (by first | omega | (simp [go_sem]; omega)) _) | (with_reducible refine below_drewN' ?_ _)))⟩
end Go.Proofs.Ytknkkcbihaojhaa

namespace Go.Proofs.Ytknkkcbihaojhaa
open Go.ChangeShapes Go.WideShapes Go.ChangeAt Go.RowKit
theorem wrap_succ (k : Nat) : wrap64 (wrap64 (k : Int) + 1) = wrap64 ((k + 1 : Nat) : Int) := by unfold wrap64; omega
theorem Rd.newRow {L0 L : List (Nat × Obj)} {W W1 : World} (h : Rd L0 W L W1) {b : Nat} (hb : W.heap.size ≤ b) (hn : b ∉ L.map (·.1)) (cs : Array Value) : Rd L0 W L (W1.setRow b cs) := by
  refine ⟨⟨fun x hx => ?_, h.holds.2⟩, ⟨h.kept.os, h.kept.tape, h.kept.output, by have := h.kept.size; simpa using this, fun k hk hn2 => ?_⟩, h.fresh⟩
  · refine (setRow_other W1 b x.1 cs (fun e => hn (e ▸ List.mem_map.2 ⟨x, hx, rfl⟩))).trans (h.holds.1 x hx)
  · exact (setRow_other W1 b k cs (by omega)).trans (h.kept.block k hk hn2)
theorem Rd.grow {L0 L : List (Nat × Obj)} {W W1 : World} (h : Rd L0 W L W1) (g : Laid) : Rd L0 W L (Go.Proofs.Ytknkkcbihaojhaa.grow W1 g) := h.trans (.call h.holds (grow_below W1 g))
theorem Rd.drewN {L0 L : List (Nat × Obj)} {W W1 : World} (h : Rd L0 W L W1) (n : Nat) : Rd L0 W L (W1.drewN n) := h.trans (.call h.holds ⟨rfl, rfl, rfl, Nat.le_refl _, fun _ _ => rfl⟩)
theorem Rd.skip {L0 L : List (Nat × Obj)} {W W1 : World} (h : Rd L0 W L W1) (o : Obj) : Rd L0 W L (W1.alloc o) := h.trans (.call h.holds ((Below.refl _ _).alloc (Nat.le_refl _) _))
theorem Holds.fresh {W : World} {L : List (Nat × Obj)} (h : Holds W L) {b : Nat} (hb : W.heap.size ≤ b) : b ∉ L.map (·.1) := fun hm => by
  obtain ⟨x, hx, he⟩ := List.mem_map.1 hm
  have := h.lt hx
  omega
set_option maxRecDepth 100000 in
set_option maxHeartbeats 1000000 in
theorem tweaks_any (x : List UInt8) (hx : x.length = 16) (w : World) : Calls Try.prog 42 #[.agg (bvs x)] w fun e w' => e = .returned (.func (.func 66) #[] #[.pointer (some ⟨w.heap.size, 0, none⟩)]) ∧ w' = w.alloc (.cells (bvs x) 61) := by
  have s1 : csz (bvs x) = 16 := by rw [csz_bvs, hx]
  clear hx
  go_enter Try.func42, Try.ntmps42
  go_wp2
  go_ret
  exact ⟨rfl, rfl⟩
set_option maxRecDepth 100000 in
set_option maxHeartbeats 2000000 in
theorem tweaks1_iter (x : List UInt8) (hx : x.length = 16) (g : Nat) (W0 : World) (hg : blk W0 g = some (.cells (bvs x) 61 (0, 0))) :
    IterAt Try.prog 66 #[.pointer (some ⟨g, 0, none⟩)] (fun k => #[.int .i64 (wrap64 k), .agg (bvs (dblIt x k))]) none [g] W0 := by
  intro l J Jx M W L0 hbW hR hM hJ0 hH hY
  have hgW : blk W g = some (.cells (bvs x) 61 (0, 0)) := (hbW.block g (blk_lt hg)).trans hg
  have hgl := blk_lt hgW
  have hM' := hid (hM rfl)
  have HY := hid hY
  have s1 : csz (bvs x) = 16 := by rw [csz_bvs, hx]
  have HL := hid (fun k => show csz (bvs (dblIt x k)) = 16 by rw [csz_bvs, dblIt_len hx])
  have HL2 := hid (fun k => dblIt_len hx k)
  have HD := hid (fun k => (dblIt_succ x k).symm)
  have H0 := hid (dblIt_zero x)
  have z := zs16
  have sz : csz (bvs (zs 16)) = 16 := by rw [csz_bvs, zs_len]
  have e0 := zs_ne
  clear hM hY hR hg hbW hx
  refine (callsIn_wide (n := 1)).1 ?_
  refine callsIn_of_wp Try.func66 rfl trivial ?_ rfl
  simp only [Try.ntmps66, List.size_toArray, List.length_cons, List.length_nil, Nat.reduceAdd, Nat.reduceSub, Array.replicate_succ, Array.replicate_zero, List.push_toArray, List.append_toArray, List.nil_append, List.cons_append]
  gi_wp2
  gi_region
  all_goals gi_wp2
  gi_loopg [3, 4] M (fun n u3 u4 wr => ∃ k L b, n + k = M ∧ u3 = .int .i64 (wrap64 ((k : Nat) : Int)) ∧ u4 = .pointer (some ⟨b, 0, none⟩) ∧ J k L ∧ Rd L0 W L wr ∧ blk wr b = some (.cells (bvs (dblIt x k)) 61 (0, 0)) ∧ W.heap.size ≤ b ∧ b ∉ L.map (·.1))
  case atStart => exact ⟨0, L0, W.heap.size, by omega, by simp [wrap64], rfl, hJ0, by repeat (first | exact Rd.refl hH | refine Rd.skip ?_ _ | refine Rd.drewN ?_ _ | exact Rd.drewN ?_ 1), by rw [H0.out]; go_simp, Nat.le_refl _, hH.fresh (Nat.le_refl _)⟩
  case round =>
    obtain ⟨k, L, b, hk, rfl, rfl, hJ, hRd, hb, hbW, hbn⟩ := hrel
    have hl := HL.out k
    have hl2 := HL.out (k + 1)
    have hlt := blk_lt hb
    obtain ⟨fn, tmps, assign, body, hy, hRo⟩ := HY.out k L wr hJ hRd (fun n h => by cases h)
    have HH := hid hRd; have HHJ := hid hJ; have HB := hid hb; have HN := hid hbn
    clear hRd hJ
    gi_wp2
    refine hRo.mono ?_
    rintro e W3 ⟨L2, hRd2, (⟨rfl, hJ2⟩ | ⟨rfl, hx⟩)⟩
    · have hT := HH.out.trans hRd2
      have hm := hM'.out (k + 1) L2 hJ2
      obtain ⟨hb2, hbn2⟩ := hRd2.far HB.out HN.out
      have hb3 : blk W3 b = some (.cells (bvs (dblIt x k)) 61 (0, 0)) := hb2
      have hlt3 := blk_lt hb3
      have hsz := hT.kept.size
      have HT := hid hT; clear hT; have HJ := hid hJ2; have HN2 := hid hbn2
      clear hRd2 hJ2 hRo hy HH HHJ hb2 hbn2 hb
      have hb4 := blk_setRow_same hb3 (bvs (dblIt x (k + 1)))
      gi_wp2_with fail
      refine (callsIn_wide.2 (double_any (dblIt x k) (HL2.out k) _)).mono ?_
      rintro e w' ⟨rfl, hb⟩
      obtain ⟨g3, rfl⟩ := grow_of hb
      rw [HD.out]
      clear hb
      gi_wp2
      gi_roundg (gk - 1)
      case rel =>
        have hR := ((HT.out.newRow hbW HN2.out (bvs (dblIt x (k + 1)))).grow g3)
        exact ⟨k + 1, L2, W3.heap.size + g3.n, by omega, by rw [← wrap_succ], rfl, HJ.out, hR.skip _, by go_simp, by omega, hR.holds.fresh (by go_simp)⟩
      case measure => omega
    · have hT := HH.out.trans hRd2
      gi_wp2
      go_end0
      exact ⟨⟨_, rfl⟩, L2, hT, .inr hx⟩
end Go.Proofs.Ytknkkcbihaojhaa

namespace Go.Proofs.Ytknkkcbihaojhaa
open Go.ChangeShapes Go.WideShapes Go.ChangeAt Go.RowKit
attribute [local irreducible] xorL sboxL subB sealV openV
/-- The work's cells: the round keys, what a block is turned by, the first tweak. -/
def wkC (r f : Value) (x : List UInt8) : Array Value := (r :: f :: x.map bv).toArray
def buildW (t : TypeId) (parts : Array (Nat × Value)) : Sem Value := if t = t then Instr.build t parts else Instr.build t parts
@[go_sem ↓] theorem build_work (parts : Array (Nat × Value)) : Instr.build 94 parts = buildW 94 parts := by unfold buildW; rw [if_pos rfl]
@[go_sem] theorem run_build_work (p : Option Addr) (n c : Nat) (f : Fn) (x : List UInt8) (h : csz (bvs x) = 16) (w : World) :
    (buildW 94 #[(0, .slice p n c), (1, .func f #[] #[]), (2, .agg (bvs x))]).run Try.prog w = .ok (.agg (wkC (.slice p n c) (.func f #[] #[]) x)) w := by
  rw [csz_bvs] at h
  obtain ⟨a0, a1, a2, a3, a4, a5, a6, a7, a8, a9, a10, a11, a12, a13, a14, a15, rfl⟩ := len16 h
  unfold buildW
  rw [if_pos rfl]
  kernel_rfl
theorem wkC_size (r f : Value) (x : List UInt8) : csz (wkC r f x) = x.length + 2 := by rw [csz_is]; simp [wkC]
theorem wkC_cut (r f : Value) (x : List UInt8) (h : x.length = 16) : cut (wkC r f x) 2 16 = bvs x := by
  unfold cut
  rw [if_neg (by omega)]
  apply Array.ext_getElem?
  intro i
  rw [Array.getElem?_extract]
  by_cases hi : i < 16
  · simp [wkC, bvs, show i + 2 < 18 by omega, hi, Nat.add_comm 2 i, h]
  · simp [bvs, hi, h, wkC]
theorem wkC_0 (r f : Value) (x : List UInt8) : (wkC r f x)[0]? = some r := rfl
theorem wkC_1 (r f : Value) (x : List UInt8) : (wkC r f x)[1]? = some f := rfl
attribute [irreducible] wkC
theorem BytesAt.drop {w : World} {p : Option Addr} {n c : Nat} {l : List UInt8} (h : BytesAt w (.slice p n c) l) (k : Nat) (hk : k < c) (hkn : k ≤ n) : BytesAt w (.slice (p.map (·.add k)) (n - k) (c - k)) (l.drop k) := by
  obtain ⟨p', c', hv, h1, h0, h3⟩ := h
  simp only [Value.slice.injEq] at hv
  obtain ⟨rfl, rfl, rfl⟩ := hv
  refine ⟨p.map (·.add k), c - k, by rw [List.length_drop], by rw [List.length_drop]; omega, fun hn => ?_, fun hne => ?_⟩
  · cases p with
    | none => have := h0 rfl; omega
    | some a => cases hn
  · obtain ⟨b, o, cs, t, e, rfl, hb, hx⟩ := h3 (fun e => hne (by rw [e, List.drop_nil]))
    refine ⟨b, o + k, cs, t, e, by simp [add_addr], hb, fun i x hi => ?_⟩
    rw [List.getElem?_drop] at hi
    rw [Nat.add_assoc]
    exact hx _ _ hi
theorem BytesAt.ptr {w : World} {p : Option Addr} {n c : Nat} {l : List UInt8} (h : BytesAt w (.slice p n c) l) (hn : 0 < n) : ∃ b o, p = some ⟨b, o, none⟩ := by
  obtain ⟨p', c', hv, h1, h0, h3⟩ := h
  simp only [Value.slice.injEq] at hv
  obtain ⟨rfl, rfl, rfl⟩ := hv
  obtain ⟨b, o, cs, t, e, rfl, _⟩ := h3 (by intro e; subst e; simp at hn)
  exact ⟨b, o, rfl⟩
theorem BytesAt.from {w : World} {b o n c : Nat} {l : List UInt8} (h : BytesAt w (.slice (some ⟨b, o, none⟩) n c) l) (k : Nat) (hkn : k ≤ n) : BytesAt w (.slice (some ⟨b, o + k, none⟩) (n - k) (c - k)) (l.drop k) := by
  obtain ⟨p', c', hv, h1, h0, h3⟩ := h
  simp only [Value.slice.injEq] at hv
  obtain ⟨rfl, rfl, rfl⟩ := hv
  refine ⟨_, c - k, by rw [List.length_drop], by rw [List.length_drop]; omega, (fun hn => by cases hn), fun hne => ?_⟩
  obtain ⟨b', o', cs, t, e, hp, hb, hx⟩ := h3 (fun e => hne (by rw [e, List.drop_nil]))
  simp only [Option.some.injEq, Addr.mk.injEq, and_true] at hp
  obtain ⟨rfl, rfl⟩ := hp
  refine ⟨b, o + k, cs, t, e, rfl, hb, fun i x hi => ?_⟩
  rw [List.getElem?_drop] at hi
  rw [Nat.add_assoc]
  exact hx _ _ hi
theorem BytesAt.take {w : World} {p : Option Addr} {n c : Nat} {l : List UInt8} (h : BytesAt w (.slice p n c) l) (k : Nat) (hkn : k ≤ n) : BytesAt w (.slice p k c) (l.take k) := by
  obtain ⟨p', c', hv, h1, h0, h3⟩ := h
  simp only [Value.slice.injEq] at hv
  obtain ⟨rfl, rfl, rfl⟩ := hv
  refine ⟨p, c, by rw [List.length_take, Nat.min_eq_left hkn], by rw [List.length_take]; omega, h0, fun hne => ?_⟩
  obtain ⟨b, o, cs, t, e, rfl, hb, hx⟩ := h3 (fun e => hne (by rw [e, List.take_nil]))
  refine ⟨b, o, cs, t, e, rfl, hb, fun i x hi => hx i x ?_⟩
  rw [List.getElem?_take] at hi
  split at hi
  · exact hi
  · cases hi
theorem BytesAt.len {w : World} {p : Option Addr} {n c : Nat} {l : List UInt8} (h : BytesAt w (.slice p n c) l) : n = l.length ∧ n ≤ c := by
  obtain ⟨p', c', hv, h1, h0, h3⟩ := h
  simp only [Value.slice.injEq] at hv
  obtain ⟨rfl, rfl, rfl⟩ := hv
  exact ⟨rfl, h1⟩
/-- What a work's beginning leaves. -/
def WorkAt (key : List UInt8) (n : Int) (fv : Value) (w w' : World) (e : Ending) : Prop :=
  ∃ b p c, e = .returned (.tuple #[.pointer (some ⟨b, 0, none⟩), .nilIface]) ∧ w.heap.size ≤ b ∧ blk w' b = some (.cells (wkC (.slice p (rkeys (key.take (key.length / 2))).length c) fv (tweakV (key.drop (key.length / 2)) (u64N n) 0)) 94 (0, 0)) ∧
    RowsAt w' 16 (.slice p (rkeys (key.take (key.length / 2))).length c) (rkeys (key.take (key.length / 2))) ∧ Below w.heap.size w w'
set_option maxRecDepth 100000 in
set_option maxHeartbeats 2000000 in
theorem begin_good (key l : List UInt8) (h : key.length = 32 ∨ key.length = 64) (n : Int) (v tv : Value) (f : Fn) (w : World) (hv : BytesAt w v key) (ht : BytesAt w tv l) (h1 : 16 ≤ l.length) (h2 : l.length ≤ 65536) :
    Calls Try.prog 37 #[v, .int .i64 n, tv, .func f #[] #[]] w fun e w' => WorkAt key n (.func f #[] #[]) w w' e := by
  obtain ⟨p, c, rfl, hc⟩ := hv.slice
  obtain ⟨tp, tc, rfl, htc⟩ := ht.slice
  have hh := halves_len h
  obtain ⟨kb, ko, rfl⟩ := hv.ptr (by omega)
  have H1 := hv.from (key.length / 2) (by omega)
  have H2 := hv.take (key.length / 2) (by omega)
  have T1 := hid (fun v w (hv : BytesAt w v (key.drop (key.length / 2))) => tweak_good _ hh.2 n v w hv)
  have R1 := hid (fun v w (hv : BytesAt w v (key.take (key.length / 2))) => rounds_good _ hh.1 v w hv)
  have s3 : csz (bvs (tweakV (key.drop (key.length / 2)) (u64N n) 0)) = 16 := by rw [csz_bvs, tweakV_len hh.2]
  unfold WorkAt
  generalize key.length = nk at *
  generalize l.length = nt at *
  generalize hk1 : key.take (nk / 2) = k1 at *
  generalize hk2 : key.drop (nk / 2) = k2 at *
  generalize tweakV k2 (u64N n) 0 = x at *
  clear hv ht hk1 hk2 hh
  have t1 : ¬ (nt : Int) < 16 := by omega
  have t2 : ¬ (65536 : Int) < nt := by omega
  have t3 : decide ((nt : Int) < 16) = false := by simpa using t1
  have t4 : decide ((65536 : Int) < nt) = false := by simpa using t2
  rcases h with rfl | rfl
  · have c1 : ¬ c = 16 := by omega
    simp only [Nat.reduceDiv, Nat.reduceSub] at H1 H2
    have H1 := hid H1; have H2 := hid H2
    go_enter Try.func37, Try.ntmps37
    go_wp2_with fail
    (with_reducible refine (T1.out _ _ H1.out).mono ?_)
    rintro e wg ⟨rfl, hb⟩
    obtain ⟨g1, rfl⟩ := grow_of hb
    clear hb
    go_wp2_with fail
    (with_reducible refine (R1.out _ _ (H2.out.below (by repeat (first | (with_reducible exact Below.refl _ _) | (with_reducible assumption) | (with_reducible exact grow_below _ _) | (with_reducible exact St.below (by assumption)) | (with_reducible refine below_grow ?_ _) | (with_reducible refine Below.alloc ?_ (by first | omega | (simp; done) | (simp [go_sem]; done) | (simp [go_sem]; omega)) _) | (with_reducible exact (St.put1 (by assumption) _).below) | (with_reducible exact (St.put2 (by assumption) _ _).below) | (with_reducible exact (St.put3 (by assumption) _ _ _).below) | (with_reducible exact (St.put4 (by assumption) _ _ _ _).below) | (with_reducible refine below_put ?_ (by first | omega | (simp [go_sem]; omega)) _ _) | (with_reducible refine Below.drew ?_) | (with_reducible refine Below.setCell ?_ (by first | omega | (simp [go_sem]; omega)) _) | (with_reducible refine below_setRow' ?_ (by first | omega | (simp [go_sem]; omega)) _) | (with_reducible refine below_drewN' ?_ _))))).mono ?_)
    rintro e wg ⟨rp, rc, rfl, hR, hb⟩
    obtain ⟨g2, rfl⟩ := grow_of hb
    clear hb
    go_wp2
    go_ret2
    exact ⟨_, _, _, rfl, by omega, by go_simp, hR.below (by repeat (first | (with_reducible exact Below.refl _ _) | (with_reducible assumption) | (with_reducible exact grow_below _ _) | (with_reducible exact St.below (by assumption)) | (with_reducible refine below_grow ?_ _) | (with_reducible refine Below.alloc ?_ (by first | omega | (simp; done) | (simp [go_sem]; done) | (simp [go_sem]; omega)) _) | (with_reducible exact (St.put1 (by assumption) _).below) | (with_reducible exact (St.put2 (by assumption) _ _).below) | (with_reducible exact (St.put3 (by assumption) _ _ _).below) | (with_reducible exact (St.put4 (by assumption) _ _ _ _).below) | (with_reducible refine below_put ?_ (by first | omega | (simp [go_sem]; omega)) _ _) | (with_reducible refine Below.drew ?_) | (with_reducible refine Below.setCell ?_ (by first | omega | (simp [go_sem]; omega)) _) | (with_reducible refine below_setRow' ?_ (by first | omega | (simp [go_sem]; omega)) _) | (with_reducible refine below_drewN' ?_ _))), (by repeat (first | (with_reducible exact Below.refl _ _) | (with_reducible assumption) | (with_reducible exact grow_below _ _) | (with_reducible exact St.below (by assumption)) | (with_reducible refine below_grow ?_ _) | (with_reducible refine Below.alloc ?_ (by first | omega | (simp; done) | (simp [go_sem]; done) | (simp [go_sem]; omega)) _) | (with_reducible exact (St.put1 (by assumption) _).below) | (with_reducible exact (St.put2 (by assumption) _ _).below) | (with_reducible exact (St.put3 (by assumption) _ _ _).below) | (with_reducible exact (St.put4 (by assumption) _ _ _ _).below) | (with_reducible refine below_put ?_ (by first | omega | (simp [go_sem]; omega)) _ _) | (with_reducible refine Below.drew ?_) | (with_reducible refine Below.setCell ?_ (by first | omega | (simp [go_sem]; omega)) _) | (with_reducible refine below_setRow' ?_ (by first | omega | (simp [go_sem]; omega)) _) | (with_reducible refine below_drewN' ?_ _)))⟩
  · have c1 : ¬ c = 32 := by omega
    simp only [Nat.reduceDiv, Nat.reduceSub] at H1 H2
    have H1 := hid H1; have H2 := hid H2
    go_enter Try.func37, Try.ntmps37
    go_wp2_with fail
    (with_reducible refine (T1.out _ _ H1.out).mono ?_)
    rintro e wg ⟨rfl, hb⟩
    obtain ⟨g1, rfl⟩ := grow_of hb
    clear hb
    go_wp2_with fail
    (with_reducible refine (R1.out _ _ (H2.out.below (by repeat (first | (with_reducible exact Below.refl _ _) | (with_reducible assumption) | (with_reducible exact grow_below _ _) | (with_reducible exact St.below (by assumption)) | (with_reducible refine below_grow ?_ _) | (with_reducible refine Below.alloc ?_ (by first | omega | (simp; done) | (simp [go_sem]; done) | (simp [go_sem]; omega)) _) | (with_reducible exact (St.put1 (by assumption) _).below) | (with_reducible exact (St.put2 (by assumption) _ _).below) | (with_reducible exact (St.put3 (by assumption) _ _ _).below) | (with_reducible exact (St.put4 (by assumption) _ _ _ _).below) | (with_reducible refine below_put ?_ (by first | omega | (simp [go_sem]; omega)) _ _) | (with_reducible refine Below.drew ?_) | (with_reducible refine Below.setCell ?_ (by first | omega | (simp [go_sem]; omega)) _) | (with_reducible refine below_setRow' ?_ (by first | omega | (simp [go_sem]; omega)) _) | (with_reducible refine below_drewN' ?_ _))))).mono ?_)
    rintro e wg ⟨rp, rc, rfl, hR, hb⟩
    obtain ⟨g2, rfl⟩ := grow_of hb
    clear hb
    go_wp2
    go_ret2
    exact ⟨_, _, _, rfl, by omega, by go_simp, hR.below (by repeat (first | (with_reducible exact Below.refl _ _) | (with_reducible assumption) | (with_reducible exact grow_below _ _) | (with_reducible exact St.below (by assumption)) | (with_reducible refine below_grow ?_ _) | (with_reducible refine Below.alloc ?_ (by first | omega | (simp; done) | (simp [go_sem]; done) | (simp [go_sem]; omega)) _) | (with_reducible exact (St.put1 (by assumption) _).below) | (with_reducible exact (St.put2 (by assumption) _ _).below) | (with_reducible exact (St.put3 (by assumption) _ _ _).below) | (with_reducible exact (St.put4 (by assumption) _ _ _ _).below) | (with_reducible refine below_put ?_ (by first | omega | (simp [go_sem]; omega)) _ _) | (with_reducible refine Below.drew ?_) | (with_reducible refine Below.setCell ?_ (by first | omega | (simp [go_sem]; omega)) _) | (with_reducible refine below_setRow' ?_ (by first | omega | (simp [go_sem]; omega)) _) | (with_reducible refine below_drewN' ?_ _))), (by repeat (first | (with_reducible exact Below.refl _ _) | (with_reducible assumption) | (with_reducible exact grow_below _ _) | (with_reducible exact St.below (by assumption)) | (with_reducible refine below_grow ?_ _) | (with_reducible refine Below.alloc ?_ (by first | omega | (simp; done) | (simp [go_sem]; done) | (simp [go_sem]; omega)) _) | (with_reducible exact (St.put1 (by assumption) _).below) | (with_reducible exact (St.put2 (by assumption) _ _).below) | (with_reducible exact (St.put3 (by assumption) _ _ _).below) | (with_reducible exact (St.put4 (by assumption) _ _ _ _).below) | (with_reducible refine below_put ?_ (by first | omega | (simp [go_sem]; omega)) _ _) | (with_reducible refine Below.drew ?_) | (with_reducible refine Below.setCell ?_ (by first | omega | (simp [go_sem]; omega)) _) | (with_reducible refine below_setRow' ?_ (by first | omega | (simp [go_sem]; omega)) _) | (with_reducible refine below_drewN' ?_ _)))⟩
theorem hideTurn_any (key x : List UInt8) (h : key.length = 16 ∨ key.length = 32) (hx : x.length = 16) (v : Value) (w : World) (hr : RowsAt w 16 v (rkeys key)) :
    Calls Try.prog 33 #[v, .agg (bvs x)] w fun e w' => e = .returned (.agg (bvs (sealV key x))) ∧ Below w.heap.size w w' := by
  unfold sealV
  exact encrypt_any (rkeys key) x hx v w (keysAt_rows hr) (by rw [rkeys_len]; omega)
set_option maxRecDepth 100000 in
set_option maxHeartbeats 2000000 in
theorem hideWork_any (key t x x0 : List UInt8) (h : key.length = 16 ∨ key.length = 32) (ht : t.length = 16) (hx : x.length = 16) (rv : Value) (b : Nat) (w : World)
    (hb : blk w b = some (.cells (wkC rv (.func (.func 33) #[] #[]) x0) 94 (0, 0))) (hr : RowsAt w 16 rv (rkeys key)) :
    Calls Try.prog 61 #[.pointer (some ⟨b, 0, none⟩), .agg (bvs t), .agg (bvs x)] w fun e w' => e = .returned (.agg (bvs (hideB key t x))) ∧ Below w.heap.size w w' := by
  have hX := xorL_len _ _ 16 hx ht
  have HS := hid (fun w' (hv' : RowsAt w' 16 rv (rkeys key)) => hideTurn_any key _ h hX rv w' hv')
  have hR : (sealV key (xorL x t)).length = 16 := sealV_len h hX
  have H1 := hid (xor_any x t hx ht)
  have H2 := hid (xor_any _ t hR ht)
  have E := hid (show xorL (sealV key (xorL x t)) t = hideB key t x by unfold hideB; rfl)
  rw [E.out] at H2
  have s1 : csz (bvs (zs 16)) = 16 := by rw [csz_bvs, zs_len]
  have s2 : csz (bvs t) = 16 := by rw [csz_bvs, ht]
  have s3 : csz (bvs x) = 16 := by rw [csz_bvs, hx]
  have s4 : csz (bvs (hideB key t x)) = 16 := by rw [csz_bvs, hideB_len h ht hx]
  have z := zs16; have e0 := zs_ne
  have HV := hid hr
  have c0 : w.cell? ⟨b, 0, none⟩ = some rv := by rw [cell_of_row w b 0 _ _ _ hb]; exact wkC_0 _ _ _
  have c1 : w.cell? ⟨b, 1, none⟩ = some (.func (.func 33) #[] #[]) := by rw [cell_of_row w b 1 _ _ _ hb]; exact wkC_1 _ _ _
  have hl := blk_lt hb
  clear hr hX hR h ht hx E hb
  go_enter Try.func61, Try.ntmps61
  go_wp2_with fail
  refine region_tail_lit (by kernel_rfl) (by kernel_rfl) ?_
  dsimp only [List.dropLast, List.getLast?, List.getLast, Option.getD]
  repeat (first | (refine BigFrame.wpQuiet_skip rfl ?_; simp only [Act.put, List.setIfInBounds_toArray, List.set_cons_zero, List.set_cons_succ]) | (refine BigFrame.wpQuiet_want rfl (fun K hK => ?_); apply Exists.intro; refine ⟨fun w' hw' => ?_, hK _ ?_⟩; (focus (have zw := hw'; obtain ⟨zg, rfl⟩ := grow_of hw'; go_simp; (try (go_bits; go_simp)); first | done | rfl | (first | ((with_reducible refine (H1.out _).mono fun e w2 h2 => ⟨h2.1, zw.step h2.2⟩)) | ((with_reducible refine (HS.out _ ?_).mono fun e w2 h2 => ⟨h2.1, zw.step h2.2⟩); exact HV.out.below (by repeat (first | (with_reducible exact Below.refl _ _) | (with_reducible assumption) | (with_reducible exact grow_below _ _) | (with_reducible exact St.below (by assumption)) | (with_reducible refine below_grow ?_ _) | (with_reducible refine Below.alloc ?_ (by first | omega | (simp; done) | (simp [go_sem]; done) | (simp [go_sem]; omega)) _) | (with_reducible exact (St.put1 (by assumption) _).below) | (with_reducible exact (St.put2 (by assumption) _ _).below) | (with_reducible exact (St.put3 (by assumption) _ _ _).below) | (with_reducible exact (St.put4 (by assumption) _ _ _ _).below) | (with_reducible refine below_put ?_ (by first | omega | (simp [go_sem]; omega)) _ _) | (with_reducible refine Below.drew ?_) | (with_reducible refine Below.setCell ?_ (by first | omega | (simp [go_sem]; omega)) _) | (with_reducible refine below_setRow' ?_ (by first | omega | (simp [go_sem]; omega)) _) | (with_reducible refine below_drewN' ?_ _)))) | ((with_reducible refine (H2.out _).mono fun e w2 h2 => ⟨h2.1, zw.step h2.2⟩))))); clear hK K; simp only [Act.put, List.setIfInBounds_toArray, List.set_cons_zero, List.set_cons_succ]))
  refine wpQuiet_nil ?_
  intro wq hcq
  obtain ⟨gq, rfl⟩ := grow_of hcq
  clear hcq
  go_wp2
  exact post_cell (n := 16) Try.results61 (by kernel_rfl) (.inl rfl) _ _ _ _ rfl rfl (by go_simp; first | done | rfl | exact ⟨rfl, rfl⟩) (by first | (rw [← csz_is]; assumption) | rfl) ⟨rfl, (by repeat (first | (with_reducible exact Below.refl _ _) | (with_reducible assumption) | (with_reducible exact grow_below _ _) | (with_reducible exact St.below (by assumption)) | (with_reducible refine below_grow ?_ _) | (with_reducible refine Below.alloc ?_ (by first | omega | (simp; done) | (simp [go_sem]; done) | (simp [go_sem]; omega)) _) | (with_reducible exact (St.put1 (by assumption) _).below) | (with_reducible exact (St.put2 (by assumption) _ _).below) | (with_reducible exact (St.put3 (by assumption) _ _ _).below) | (with_reducible exact (St.put4 (by assumption) _ _ _ _).below) | (with_reducible refine below_put ?_ (by first | omega | (simp [go_sem]; omega)) _ _) | (with_reducible refine Below.drew ?_) | (with_reducible refine Below.setCell ?_ (by first | omega | (simp [go_sem]; omega)) _) | (with_reducible refine below_setRow' ?_ (by first | omega | (simp [go_sem]; omega)) _) | (with_reducible refine below_drewN' ?_ _)))⟩
theorem showTurn_any (key x : List UInt8) (h : key.length = 16 ∨ key.length = 32) (hx : x.length = 16) (v : Value) (w : World) (hr : RowsAt w 16 v (rkeys key)) :
    Calls Try.prog 46 #[v, .agg (bvs x)] w fun e w' => e = .returned (.agg (bvs (openV key x))) ∧ Below w.heap.size w w' := by
  unfold openV
  exact decrypt_any (rkeys key) x hx v w (keysAt_rows hr) (by rw [rkeys_len]; omega)
set_option maxRecDepth 100000 in
set_option maxHeartbeats 2000000 in
theorem showWork_any (key t x x0 : List UInt8) (h : key.length = 16 ∨ key.length = 32) (ht : t.length = 16) (hx : x.length = 16) (rv : Value) (b : Nat) (w : World)
    (hb : blk w b = some (.cells (wkC rv (.func (.func 46) #[] #[]) x0) 94 (0, 0))) (hr : RowsAt w 16 rv (rkeys key)) :
    Calls Try.prog 61 #[.pointer (some ⟨b, 0, none⟩), .agg (bvs t), .agg (bvs x)] w fun e w' => e = .returned (.agg (bvs (showB key t x))) ∧ Below w.heap.size w w' := by
  have hX := xorL_len _ _ 16 hx ht
  have HS := hid (fun w' (hv' : RowsAt w' 16 rv (rkeys key)) => showTurn_any key _ h hX rv w' hv')
  have hR : (openV key (xorL x t)).length = 16 := openV_len h hX
  have H1 := hid (xor_any x t hx ht)
  have H2 := hid (xor_any _ t hR ht)
  have E := hid (show xorL (openV key (xorL x t)) t = showB key t x by unfold showB; rfl)
  rw [E.out] at H2
  have s1 : csz (bvs (zs 16)) = 16 := by rw [csz_bvs, zs_len]
  have s2 : csz (bvs t) = 16 := by rw [csz_bvs, ht]
  have s3 : csz (bvs x) = 16 := by rw [csz_bvs, hx]
  have s4 : csz (bvs (showB key t x)) = 16 := by rw [csz_bvs, showB_len h ht hx]
  have z := zs16; have e0 := zs_ne
  have HV := hid hr
  have c0 : w.cell? ⟨b, 0, none⟩ = some rv := by rw [cell_of_row w b 0 _ _ _ hb]; exact wkC_0 _ _ _
  have c1 : w.cell? ⟨b, 1, none⟩ = some (.func (.func 46) #[] #[]) := by rw [cell_of_row w b 1 _ _ _ hb]; exact wkC_1 _ _ _
  have hl := blk_lt hb
  clear hr hX hR h ht hx E hb
  go_enter Try.func61, Try.ntmps61
  go_wp2_with fail
  refine region_tail_lit (by kernel_rfl) (by kernel_rfl) ?_
  dsimp only [List.dropLast, List.getLast?, List.getLast, Option.getD]
  repeat (first | (refine BigFrame.wpQuiet_skip rfl ?_; simp only [Act.put, List.setIfInBounds_toArray, List.set_cons_zero, List.set_cons_succ]) | (refine BigFrame.wpQuiet_want rfl (fun K hK => ?_); apply Exists.intro; refine ⟨fun w' hw' => ?_, hK _ ?_⟩; (focus (have zw := hw'; obtain ⟨zg, rfl⟩ := grow_of hw'; go_simp; (try (go_bits; go_simp)); first | done | rfl | (first | ((with_reducible refine (H1.out _).mono fun e w2 h2 => ⟨h2.1, zw.step h2.2⟩)) | ((with_reducible refine (HS.out _ ?_).mono fun e w2 h2 => ⟨h2.1, zw.step h2.2⟩); exact HV.out.below (by repeat (first | (with_reducible exact Below.refl _ _) | (with_reducible assumption) | (with_reducible exact grow_below _ _) | (with_reducible exact St.below (by assumption)) | (with_reducible refine below_grow ?_ _) | (with_reducible refine Below.alloc ?_ (by first | omega | (simp; done) | (simp [go_sem]; done) | (simp [go_sem]; omega)) _) | (with_reducible exact (St.put1 (by assumption) _).below) | (with_reducible exact (St.put2 (by assumption) _ _).below) | (with_reducible exact (St.put3 (by assumption) _ _ _).below) | (with_reducible exact (St.put4 (by assumption) _ _ _ _).below) | (with_reducible refine below_put ?_ (by first | omega | (simp [go_sem]; omega)) _ _) | (with_reducible refine Below.drew ?_) | (with_reducible refine Below.setCell ?_ (by first | omega | (simp [go_sem]; omega)) _) | (with_reducible refine below_setRow' ?_ (by first | omega | (simp [go_sem]; omega)) _) | (with_reducible refine below_drewN' ?_ _)))) | ((with_reducible refine (H2.out _).mono fun e w2 h2 => ⟨h2.1, zw.step h2.2⟩))))); clear hK K; simp only [Act.put, List.setIfInBounds_toArray, List.set_cons_zero, List.set_cons_succ]))
  refine wpQuiet_nil ?_
  intro wq hcq
  obtain ⟨gq, rfl⟩ := grow_of hcq
  clear hcq
  go_wp2
  exact post_cell (n := 16) Try.results61 (by kernel_rfl) (.inl rfl) _ _ _ _ rfl rfl (by go_simp; first | done | rfl | exact ⟨rfl, rfl⟩) (by first | (rw [← csz_is]; assumption) | rfl) ⟨rfl, (by repeat (first | (with_reducible exact Below.refl _ _) | (with_reducible assumption) | (with_reducible exact grow_below _ _) | (with_reducible exact St.below (by assumption)) | (with_reducible refine below_grow ?_ _) | (with_reducible refine Below.alloc ?_ (by first | omega | (simp; done) | (simp [go_sem]; done) | (simp [go_sem]; omega)) _) | (with_reducible exact (St.put1 (by assumption) _).below) | (with_reducible exact (St.put2 (by assumption) _ _).below) | (with_reducible exact (St.put3 (by assumption) _ _ _).below) | (with_reducible exact (St.put4 (by assumption) _ _ _ _).below) | (with_reducible refine below_put ?_ (by first | omega | (simp [go_sem]; omega)) _ _) | (with_reducible refine Below.drew ?_) | (with_reducible refine Below.setCell ?_ (by first | omega | (simp [go_sem]; omega)) _) | (with_reducible refine below_setRow' ?_ (by first | omega | (simp [go_sem]; omega)) _) | (with_reducible refine below_drewN' ?_ _)))⟩
end Go.Proofs.Ytknkkcbihaojhaa

namespace Go.Proofs.Ytknkkcbihaojhaa
open Go.ChangeShapes Go.WideShapes Go.ChangeAt Go.RowKit
/-- Eight bytes of a text written over. -/
def putW (l k : List UInt8) (i : Nat) : List UInt8 := l.take (8 * i) ++ (k ++ l.drop (8 * i + 8))
def wordAt (l : List UInt8) (i : Nat) : List UInt8 := (l.drop (8 * i)).take 8
theorem wordAt_len {l : List UInt8} {i : Nat} (h : 8 * i + 8 ≤ l.length) : (wordAt l i).length = 8 := by unfold wordAt; simp; omega
theorem putW_len {l k : List UInt8} {i : Nat} (h : 8 * i + 8 ≤ l.length) (hk : k.length = 8) : (putW l k i).length = l.length := by unfold putW; simp; omega
theorem wordAt_put {l k : List UInt8} {i : Nat} (h : 8 * i + 8 ≤ l.length) (hk : k.length = 8) : wordAt (putW l k i) i = k := by
  have h1 : (l.take (8 * i)).length = 8 * i := by simp; omega
  unfold wordAt putW
  rw [List.drop_append_of_le_length (by omega), List.drop_of_length_le (by omega), List.nil_append, List.take_append_of_le_length (by omega), List.take_of_length_le (by omega)]
theorem putW_put {l k k' : List UInt8} {i : Nat} (h : 8 * i + 8 ≤ l.length) (hk : k.length = 8) : putW (putW l k i) k' i = putW l k' i := by
  have h1 : (l.take (8 * i)).length = 8 * i := by simp; omega
  have h2 : (l.take (8 * i) ++ (k ++ l.drop (8 * i + 8))).drop (8 * i + 8) = l.drop (8 * i + 8) := by
    rw [← List.append_assoc, List.drop_append_of_le_length (by simp; omega), List.drop_of_length_le (by simp; omega), List.nil_append]
  unfold putW
  rw [h2, List.take_append_of_le_length (by omega), List.take_of_length_le (by omega)]
theorem putW_self {l : List UInt8} {i : Nat} : putW l (wordAt l i) i = l := by
  unfold putW wordAt
  rw [← List.append_assoc, ← List.take_add, List.take_append_drop]
/-- One step: number s, from nought. -/
def wStep (E : List UInt8 → List UInt8) (n : Nat) (x : List UInt8 × List UInt8) (s : Nat) : List UInt8 × List UInt8 :=
  (xorL ((E (x.1 ++ wordAt x.2 (s % n))).take 8) (beB (s + 1) 8), putW x.2 ((E (x.1 ++ wordAt x.2 (s % n))).drop 8) (s % n))
def uStep (D : List UInt8 → List UInt8) (n : Nat) (x : List UInt8 × List UInt8) (s : Nat) : List UInt8 × List UInt8 :=
  ((D (xorL x.1 (beB (s + 1) 8) ++ wordAt x.2 (s % n))).take 8, putW x.2 ((D (xorL x.1 (beB (s + 1) 8) ++ wordAt x.2 (s % n))).drop 8) (s % n))
/-- In form: a number of eight bytes, and so many words. -/
def InForm (n : Nat) (x : List UInt8 × List UInt8) : Prop := x.1.length = 8 ∧ x.2.length = 8 * n
theorem word_fits {n s : Nat} (hn : 0 < n) : 8 * (s % n) + 8 ≤ 8 * n := by have := Nat.mod_lt s hn; omega
theorem wStep_form {E : List UInt8 → List UInt8} (hE : ∀ x, x.length = 16 → (E x).length = 16) {n : Nat} (hn : 0 < n) {x : List UInt8 × List UInt8} (hx : InForm n x) (s : Nat) : InForm n (wStep E n x s) := by
  have hw := word_fits (s := s) hn
  have h1 := wordAt_len (l := x.2) (i := s % n) (by rw [hx.2]; exact hw)
  have h2 := hE (x.1 ++ wordAt x.2 (s % n)) (by rw [List.length_append, hx.1, h1])
  exact ⟨xorL_len _ _ 8 (by rw [List.length_take, h2]; rfl) (beB_len _ _), by unfold wStep; rw [putW_len (by rw [hx.2]; exact hw) (by rw [List.length_drop, h2])]; exact hx.2⟩
theorem uStep_form {D : List UInt8 → List UInt8} (hD : ∀ x, x.length = 16 → (D x).length = 16) {n : Nat} (hn : 0 < n) {x : List UInt8 × List UInt8} (hx : InForm n x) (s : Nat) : InForm n (uStep D n x s) := by
  have hw := word_fits (s := s) hn
  have h1 := wordAt_len (l := x.2) (i := s % n) (by rw [hx.2]; exact hw)
  have h0 := xorL_len x.1 (beB (s + 1) 8) 8 hx.1 (beB_len _ _)
  have h2 := hD (xorL x.1 (beB (s + 1) 8) ++ wordAt x.2 (s % n)) (by rw [List.length_append, h0, h1])
  exact ⟨by unfold uStep; rw [List.length_take, h2]; rfl, by unfold uStep; rw [putW_len (by rw [hx.2]; exact hw) (by rw [List.length_drop, h2])]; exact hx.2⟩
theorem u_of_w {E D : List UInt8 → List UInt8} (hE : ∀ x, x.length = 16 → (E x).length = 16) (hDE : ∀ x, x.length = 16 → D (E x) = x) {n : Nat} (hn : 0 < n) {x : List UInt8 × List UInt8} (hx : InForm n x) (s : Nat) : uStep D n (wStep E n x s) s = x := by
  have hw := word_fits (s := s) hn
  have hx1 : x.1.length = 8 := hx.1
  have h1 := wordAt_len (l := x.2) (i := s % n) (by rw [hx.2]; exact hw)
  have hl : (x.1 ++ wordAt x.2 (s % n)).length = 16 := by rw [List.length_append, hx.1, h1]
  have h2 := hE _ hl
  have h3 := hDE _ hl
  have ht : ((E (x.1 ++ wordAt x.2 (s % n))).take 8).length = 8 := by rw [List.length_take, h2]; rfl
  have hd : ((E (x.1 ++ wordAt x.2 (s % n))).drop 8).length = 8 := by rw [List.length_drop, h2]
  unfold uStep
  have e1 : (wStep E n x s).1 = xorL ((E (x.1 ++ wordAt x.2 (s % n))).take 8) (beB (s + 1) 8) := rfl
  have e2 : (wStep E n x s).2 = putW x.2 ((E (x.1 ++ wordAt x.2 (s % n))).drop 8) (s % n) := rfl
  rw [e1, e2, xorL_twice (by rw [ht, beB_len]), wordAt_put (by rw [hx.2]; exact hw) hd, List.take_append_drop, h3, putW_put (by rw [hx.2]; exact hw) hd,
    List.take_append_of_le_length (by omega), List.take_of_length_le (by omega), List.drop_append_of_le_length (by omega), List.drop_of_length_le (by omega), List.nil_append, putW_self]
theorem w_of_u {E D : List UInt8 → List UInt8} (hD : ∀ x, x.length = 16 → (D x).length = 16) (hED : ∀ x, x.length = 16 → E (D x) = x) {n : Nat} (hn : 0 < n) {x : List UInt8 × List UInt8} (hx : InForm n x) (s : Nat) : wStep E n (uStep D n x s) s = x := by
  have hw := word_fits (s := s) hn
  have h1 := wordAt_len (l := x.2) (i := s % n) (by rw [hx.2]; exact hw)
  have h0 := xorL_len x.1 (beB (s + 1) 8) 8 hx.1 (beB_len _ _)
  have hl : (xorL x.1 (beB (s + 1) 8) ++ wordAt x.2 (s % n)).length = 16 := by rw [List.length_append, h0, h1]
  have h2 := hD _ hl
  have h3 := hED _ hl
  have hd : ((D (xorL x.1 (beB (s + 1) 8) ++ wordAt x.2 (s % n))).drop 8).length = 8 := by rw [List.length_drop, h2]
  unfold wStep
  have e1 : (uStep D n x s).1 = (D (xorL x.1 (beB (s + 1) 8) ++ wordAt x.2 (s % n))).take 8 := rfl
  have e2 : (uStep D n x s).2 = putW x.2 ((D (xorL x.1 (beB (s + 1) 8) ++ wordAt x.2 (s % n))).drop 8) (s % n) := rfl
  rw [e1, e2, wordAt_put (by rw [hx.2]; exact hw) hd, List.take_append_drop, h3, putW_put (by rw [hx.2]; exact hw) hd,
    List.take_append_of_le_length (by omega), List.take_of_length_le (by omega), List.drop_append_of_le_length (by omega), List.drop_of_length_le (by omega), List.nil_append, putW_self, xorL_twice (by rw [hx.1, beB_len])]
/-- So many steps; so many steps back, from the last of them. -/
def wSteps (E : List UInt8 → List UInt8) (n : Nat) (x : List UInt8 × List UInt8) : Nat → List UInt8 × List UInt8
  | 0 => x
  | s + 1 => wStep E n (wSteps E n x s) s
def uSteps (D : List UInt8 → List UInt8) (n : Nat) (x : List UInt8 × List UInt8) : Nat → List UInt8 × List UInt8
  | 0 => x
  | s + 1 => uSteps D n (uStep D n x s) s
theorem wSteps_form {E : List UInt8 → List UInt8} (hE : ∀ x, x.length = 16 → (E x).length = 16) {n : Nat} (hn : 0 < n) {x : List UInt8 × List UInt8} (hx : InForm n x) : ∀ s, InForm n (wSteps E n x s)
  | 0 => hx
  | s + 1 => wStep_form hE hn (wSteps_form hE hn hx s) s
theorem uSteps_form {D : List UInt8 → List UInt8} (hD : ∀ x, x.length = 16 → (D x).length = 16) {n : Nat} (hn : 0 < n) : ∀ (s : Nat) {x : List UInt8 × List UInt8}, InForm n x → InForm n (uSteps D n x s)
  | 0, _, hx => hx
  | s + 1, _, hx => uSteps_form hD hn s (uStep_form hD hn hx s)
theorem uSteps_wSteps {E D : List UInt8 → List UInt8} (hE : ∀ x, x.length = 16 → (E x).length = 16) (hDE : ∀ x, x.length = 16 → D (E x) = x) {n : Nat} (hn : 0 < n) {x : List UInt8 × List UInt8} (hx : InForm n x) : ∀ s, uSteps D n (wSteps E n x s) s = x
  | 0 => rfl
  | s + 1 => by
    show uSteps D n (uStep D n (wStep E n (wSteps E n x s) s) s) s = x
    rw [u_of_w hE hDE hn (wSteps_form hE hn hx s), uSteps_wSteps hE hDE hn hx s]
theorem wSteps_uSteps {E D : List UInt8 → List UInt8} (hD : ∀ x, x.length = 16 → (D x).length = 16) (hED : ∀ x, x.length = 16 → E (D x) = x) {n : Nat} (hn : 0 < n) : ∀ (s : Nat) {x : List UInt8 × List UInt8}, InForm n x → wSteps E n (uSteps D n x s) s = x
  | 0, _, _ => rfl
  | s + 1, x, hx => by
    show wStep E n (wSteps E n (uSteps D n (uStep D n x s) s) s) s = x
    rw [wSteps_uSteps hD hED hn s (uStep_form hD hn hx s), w_of_u hD hED hn hx s]
theorem wSteps_zero (E : List UInt8 → List UInt8) (n : Nat) (x : List UInt8 × List UInt8) : wSteps E n x 0 = x := rfl
theorem wSteps_succ (E : List UInt8 → List UInt8) (n : Nat) (x : List UInt8 × List UInt8) (s : Nat) : wSteps E n x (s + 1) = wStep E n (wSteps E n x s) s := rfl
theorem uSteps_zero (D : List UInt8 → List UInt8) (n : Nat) (x : List UInt8 × List UInt8) : uSteps D n x 0 = x := rfl
theorem uSteps_succ (D : List UInt8 → List UInt8) (n : Nat) (x : List UInt8 × List UInt8) (s : Nat) : uSteps D n x (s + 1) = uSteps D n (uStep D n x s) s := rfl
theorem wStep_of {E : List UInt8 → List UInt8} {n : Nat} {a l k : List UInt8} {s : Nat} (h : E (a ++ wordAt l (s % n)) = k) : wStep E n (a, l) s = (xorL (k.take 8) (beB (s + 1) 8), putW l (k.drop 8) (s % n)) := by unfold wStep; rw [h]
theorem uStep_of {D : List UInt8 → List UInt8} {n : Nat} {a l k : List UInt8} {s : Nat} (h : D (xorL a (beB (s + 1) 8) ++ wordAt l (s % n)) = k) : uStep D n (a, l) s = (k.take 8, putW l (k.drop 8) (s % n)) := by unfold uStep; rw [h]
attribute [irreducible] putW wordAt wStep uStep wSteps uSteps
end Go.Proofs.Ytknkkcbihaojhaa

namespace Go.Proofs.Ytknkkcbihaojhaa
open Go.ChangeShapes Go.WideShapes Go.ChangeAt Go.RowKit
def a6L : List UInt8 := [0xa6, 0xa6, 0xa6, 0xa6, 0xa6, 0xa6, 0xa6, 0xa6]
/-- The state behind all steps; the wrapped text. -/
def wrapX (key l : List UInt8) : List UInt8 × List UInt8 := wSteps (sealV key) (l.length / 8) (a6L, l) (6 * (l.length / 8))
def wrapV (key l : List UInt8) : List UInt8 := (wrapX key l).1 ++ (wrapX key l).2
def unwrapX (key l : List UInt8) : List UInt8 × List UInt8 := uSteps (openV key) (l.length / 8 - 1) (l.take 8, l.drop 8) (6 * (l.length / 8 - 1))
theorem seal_len' {key : List UInt8} (h : key.length = 16 ∨ key.length = 32) : ∀ x, x.length = 16 → (sealV key x).length = 16 := fun _ hx => sealV_len h hx
theorem open_len' {key : List UInt8} (h : key.length = 16 ∨ key.length = 32) : ∀ x, x.length = 16 → (openV key x).length = 16 := fun _ hx => openV_len h hx
theorem open_seal' {key : List UInt8} (h : key.length = 16 ∨ key.length = 32) : ∀ x, x.length = 16 → openV key (sealV key x) = x := fun _ hx => dec_enc_all (rkeys_16 h) hx
theorem seal_open' {key : List UInt8} (h : key.length = 16 ∨ key.length = 32) : ∀ x, x.length = 16 → sealV key (openV key x) = x := fun _ hx => enc_dec_all (rkeys_16 h) hx
theorem wrapX_form {key l : List UInt8} (h : key.length = 16 ∨ key.length = 32) (h8 : l.length % 8 = 0) (hl : 0 < l.length) : InForm (l.length / 8) (wrapX key l) := wSteps_form (seal_len' h) (by omega) (x := (a6L, l)) ⟨rfl, by show l.length = 8 * (l.length / 8); omega⟩ _
theorem wrapV_len {key l : List UInt8} (h : key.length = 16 ∨ key.length = 32) (h8 : l.length % 8 = 0) (hl : 0 < l.length) : (wrapV key l).length = l.length + 8 := by
  obtain ⟨h1, h2⟩ := wrapX_form h h8 hl
  unfold wrapV
  rw [List.length_append, h1, h2]
  omega
theorem unwrap_wrap {key l : List UInt8} (h : key.length = 16 ∨ key.length = 32) (h8 : l.length % 8 = 0) (hl : 0 < l.length) : unwrapX key (wrapV key l) = (a6L, l) := by
  obtain ⟨h1, h2⟩ := wrapX_form h h8 hl
  have hn : (wrapV key l).length / 8 - 1 = l.length / 8 := by rw [wrapV_len h h8 hl]; omega
  have ht : (wrapV key l).take 8 = (wrapX key l).1 := by unfold wrapV; rw [List.take_append_of_le_length (by omega), List.take_of_length_le (by omega)]
  have hd : (wrapV key l).drop 8 = (wrapX key l).2 := by unfold wrapV; rw [List.drop_append_of_le_length (by omega), List.drop_of_length_le (by omega), List.nil_append]
  unfold unwrapX
  rw [hn, ht, hd]
  exact uSteps_wSteps (seal_len' h) (open_seal' h) (by omega) (x := (a6L, l)) ⟨rfl, by show l.length = 8 * (l.length / 8); omega⟩ _
theorem unwrapX_form {key l : List UInt8} (h : key.length = 16 ∨ key.length = 32) (h8 : l.length % 8 = 0) (hl : 16 ≤ l.length) : InForm (l.length / 8 - 1) (unwrapX key l) := uSteps_form (open_len' h) (by omega) _ ⟨by simp; omega, by simp; omega⟩
theorem wrap_unwrap {key l : List UInt8} (h : key.length = 16 ∨ key.length = 32) (h8 : l.length % 8 = 0) (hl : 16 ≤ l.length) (ha : (unwrapX key l).1 = a6L) : wrapV key (unwrapX key l).2 = l := by
  obtain ⟨h1, h2⟩ := unwrapX_form h h8 hl
  have hn : (unwrapX key l).2.length / 8 = l.length / 8 - 1 := by rw [h2]; omega
  have hx : wrapX key (unwrapX key l).2 = (l.take 8, l.drop 8) := by
    unfold wrapX
    rw [hn, ← ha]
    exact wSteps_uSteps (open_len' h) (seal_open' h) (by omega) _ ⟨by simp; omega, by simp; omega⟩
  unfold wrapV
  rw [hx, List.take_append_drop]
attribute [irreducible] wrapX wrapV unwrapX
end Go.Proofs.Ytknkkcbihaojhaa

namespace Go.Proofs.Ytknkkcbihaojhaa
open Go.ChangeShapes Go.WideShapes Go.ChangeAt Go.RowKit
theorem pair_of {x y : List UInt8 × List UInt8} (h : (x.1 == y.1 && x.2 == y.2) = true) : x = y := by
  simp only [Bool.and_eq_true, beq_iff_eq] at h
  exact Prod.ext h.1 h.2
def rk0L : List (List UInt8) := [[0, 0, 0, 0, 0, 0, 0, 0, 0, 0, 0, 0, 0, 0, 0, 0], [98, 99, 99, 99, 98, 99, 99, 99, 98, 99, 99, 99, 98, 99, 99, 99], [155, 152, 152, 201, 249, 251, 251, 170, 155, 152, 152, 201, 249, 251, 251, 170], [144, 151, 52, 80, 105, 108, 207, 250, 242, 244, 87, 51, 11, 15, 172, 153], [238, 6, 218, 123, 135, 106, 21, 129, 117, 158, 66, 178, 126, 145, 238, 43], [127, 46, 43, 136, 248, 68, 62, 9, 141, 218, 124, 187, 243, 75, 146, 144], [236, 97, 75, 133, 20, 37, 117, 140, 153, 255, 9, 55, 106, 180, 155, 167], [33, 117, 23, 135, 53, 80, 98, 11, 172, 175, 107, 60, 198, 27, 240, 155], [14, 249, 3, 51, 59, 169, 97, 56, 151, 6, 10, 4, 81, 29, 250, 159], [177, 212, 216, 226, 138, 125, 185, 218, 29, 123, 179, 222, 76, 102, 73, 65], [180, 239, 91, 203, 62, 146, 226, 17, 35, 233, 81, 207, 111, 143, 24, 142]]
def rk3L : List (List UInt8) := [[0, 0, 0, 1, 0, 0, 0, 0, 0, 0, 0, 0, 0, 0, 0, 0], [98, 99, 99, 98, 98, 99, 99, 98, 98, 99, 99, 98, 98, 99, 99, 98], [155, 152, 201, 200, 249, 251, 170, 170, 155, 152, 201, 200, 249, 251, 170, 170], [144, 52, 101, 81, 105, 207, 207, 251, 242, 87, 6, 51, 11, 172, 172, 153], [9, 165, 139, 122, 96, 106, 68, 129, 146, 61, 66, 178, 153, 145, 238, 43], [152, 141, 122, 148, 248, 231, 62, 21, 106, 218, 124, 167, 243, 75, 146, 140], [11, 194, 30, 153, 243, 37, 32, 140, 153, 255, 92, 43, 106, 180, 206, 167], [198, 73, 66, 155, 53, 108, 98, 23, 172, 147, 62, 60, 198, 39, 240, 155], [138, 197, 86, 47, 191, 169, 52, 56, 19, 58, 10, 4, 213, 29, 250, 159], [53, 232, 141, 44, 138, 65, 185, 20, 153, 123, 179, 16, 76, 102, 73, 143], [48, 211, 254, 5, 186, 146, 71, 17, 35, 233, 244, 1, 111, 143, 189, 142]]
theorem rk0_is : rkeys (zs 16) = rk0L := by decide +kernel
theorem rk3_is : rkeys ((zs 16).set 3 1) = rk3L := by decide +kernel
theorem seal0_is (x : List UInt8) : sealV (zs 16) x = encN rk0L x 11 := by unfold sealV; rw [rk0_is]; rfl
theorem open3_is (x : List UInt8) : openV ((zs 16).set 3 1) x = decN rk3L x 11 := by unfold openV; rw [rk3_is]; rfl
def k3L : List UInt8 := (zs 16).set 3 1
theorem wk0 : encN rk0L [166, 166, 166, 166, 166, 166, 166, 166, 0, 0, 0, 0, 0, 0, 0, 0] 11 = [39, 63, 41, 204, 252, 159, 164, 26, 244, 81, 69, 184, 213, 223, 178, 28] := by decide +kernel
theorem wa0 : wStep (sealV (zs 16)) 2 ([166, 166, 166, 166, 166, 166, 166, 166], [0, 0, 0, 0, 0, 0, 0, 0, 0, 0, 0, 0, 0, 0, 0, 0]) 0 = ([39, 63, 41, 204, 252, 159, 164, 27], [244, 81, 69, 184, 213, 223, 178, 28, 0, 0, 0, 0, 0, 0, 0, 0]) :=
  (wStep_of ((seal0_is _).trans ((congrArg (encN rk0L · 11) (show [166, 166, 166, 166, 166, 166, 166, 166] ++ wordAt [0, 0, 0, 0, 0, 0, 0, 0, 0, 0, 0, 0, 0, 0, 0, 0] (0 % 2) = [166, 166, 166, 166, 166, 166, 166, 166, 0, 0, 0, 0, 0, 0, 0, 0] by decide +kernel)).trans wk0))).trans (pair_of (by decide +kernel))
theorem wk1 : encN rk0L [39, 63, 41, 204, 252, 159, 164, 27, 0, 0, 0, 0, 0, 0, 0, 0] 11 = [247, 141, 223, 105, 177, 22, 248, 22, 58, 204, 102, 126, 72, 240, 11, 201] := by decide +kernel
theorem wa1 : wStep (sealV (zs 16)) 2 ([39, 63, 41, 204, 252, 159, 164, 27], [244, 81, 69, 184, 213, 223, 178, 28, 0, 0, 0, 0, 0, 0, 0, 0]) 1 = ([247, 141, 223, 105, 177, 22, 248, 20], [244, 81, 69, 184, 213, 223, 178, 28, 58, 204, 102, 126, 72, 240, 11, 201]) :=
  (wStep_of ((seal0_is _).trans ((congrArg (encN rk0L · 11) (show [39, 63, 41, 204, 252, 159, 164, 27] ++ wordAt [244, 81, 69, 184, 213, 223, 178, 28, 0, 0, 0, 0, 0, 0, 0, 0] (1 % 2) = [39, 63, 41, 204, 252, 159, 164, 27, 0, 0, 0, 0, 0, 0, 0, 0] by decide +kernel)).trans wk1))).trans (pair_of (by decide +kernel))
theorem wk2 : encN rk0L [247, 141, 223, 105, 177, 22, 248, 20, 244, 81, 69, 184, 213, 223, 178, 28] 11 = [166, 168, 58, 151, 203, 142, 8, 37, 196, 144, 136, 122, 255, 184, 186, 93] := by decide +kernel
theorem wa2 : wStep (sealV (zs 16)) 2 ([247, 141, 223, 105, 177, 22, 248, 20], [244, 81, 69, 184, 213, 223, 178, 28, 58, 204, 102, 126, 72, 240, 11, 201]) 2 = ([166, 168, 58, 151, 203, 142, 8, 38], [196, 144, 136, 122, 255, 184, 186, 93, 58, 204, 102, 126, 72, 240, 11, 201]) :=
  (wStep_of ((seal0_is _).trans ((congrArg (encN rk0L · 11) (show [247, 141, 223, 105, 177, 22, 248, 20] ++ wordAt [244, 81, 69, 184, 213, 223, 178, 28, 58, 204, 102, 126, 72, 240, 11, 201] (2 % 2) = [247, 141, 223, 105, 177, 22, 248, 20, 244, 81, 69, 184, 213, 223, 178, 28] by decide +kernel)).trans wk2))).trans (pair_of (by decide +kernel))
theorem wk3 : encN rk0L [166, 168, 58, 151, 203, 142, 8, 38, 58, 204, 102, 126, 72, 240, 11, 201] 11 = [97, 207, 32, 22, 73, 227, 2, 167, 110, 150, 69, 163, 160, 194, 39, 226] := by decide +kernel
theorem wa3 : wStep (sealV (zs 16)) 2 ([166, 168, 58, 151, 203, 142, 8, 38], [196, 144, 136, 122, 255, 184, 186, 93, 58, 204, 102, 126, 72, 240, 11, 201]) 3 = ([97, 207, 32, 22, 73, 227, 2, 163], [196, 144, 136, 122, 255, 184, 186, 93, 110, 150, 69, 163, 160, 194, 39, 226]) :=
  (wStep_of ((seal0_is _).trans ((congrArg (encN rk0L · 11) (show [166, 168, 58, 151, 203, 142, 8, 38] ++ wordAt [196, 144, 136, 122, 255, 184, 186, 93, 58, 204, 102, 126, 72, 240, 11, 201] (3 % 2) = [166, 168, 58, 151, 203, 142, 8, 38, 58, 204, 102, 126, 72, 240, 11, 201] by decide +kernel)).trans wk3))).trans (pair_of (by decide +kernel))
theorem wk4 : encN rk0L [97, 207, 32, 22, 73, 227, 2, 163, 196, 144, 136, 122, 255, 184, 186, 93] 11 = [243, 220, 173, 84, 224, 219, 2, 65, 254, 142, 117, 6, 59, 101, 12, 232] := by decide +kernel
theorem wa4 : wStep (sealV (zs 16)) 2 ([97, 207, 32, 22, 73, 227, 2, 163], [196, 144, 136, 122, 255, 184, 186, 93, 110, 150, 69, 163, 160, 194, 39, 226]) 4 = ([243, 220, 173, 84, 224, 219, 2, 68], [254, 142, 117, 6, 59, 101, 12, 232, 110, 150, 69, 163, 160, 194, 39, 226]) :=
  (wStep_of ((seal0_is _).trans ((congrArg (encN rk0L · 11) (show [97, 207, 32, 22, 73, 227, 2, 163] ++ wordAt [196, 144, 136, 122, 255, 184, 186, 93, 110, 150, 69, 163, 160, 194, 39, 226] (4 % 2) = [97, 207, 32, 22, 73, 227, 2, 163, 196, 144, 136, 122, 255, 184, 186, 93] by decide +kernel)).trans wk4))).trans (pair_of (by decide +kernel))
theorem wk5 : encN rk0L [243, 220, 173, 84, 224, 219, 2, 68, 110, 150, 69, 163, 160, 194, 39, 226] 11 = [88, 29, 107, 59, 159, 140, 16, 214, 141, 182, 238, 54, 64, 124, 91, 75] := by decide +kernel
theorem wa5 : wStep (sealV (zs 16)) 2 ([243, 220, 173, 84, 224, 219, 2, 68], [254, 142, 117, 6, 59, 101, 12, 232, 110, 150, 69, 163, 160, 194, 39, 226]) 5 = ([88, 29, 107, 59, 159, 140, 16, 208], [254, 142, 117, 6, 59, 101, 12, 232, 141, 182, 238, 54, 64, 124, 91, 75]) :=
  (wStep_of ((seal0_is _).trans ((congrArg (encN rk0L · 11) (show [243, 220, 173, 84, 224, 219, 2, 68] ++ wordAt [254, 142, 117, 6, 59, 101, 12, 232, 110, 150, 69, 163, 160, 194, 39, 226] (5 % 2) = [243, 220, 173, 84, 224, 219, 2, 68, 110, 150, 69, 163, 160, 194, 39, 226] by decide +kernel)).trans wk5))).trans (pair_of (by decide +kernel))
theorem wk6 : encN rk0L [88, 29, 107, 59, 159, 140, 16, 208, 254, 142, 117, 6, 59, 101, 12, 232] 11 = [180, 157, 201, 64, 190, 178, 54, 10, 190, 141, 15, 99, 69, 163, 43, 161] := by decide +kernel
theorem wa6 : wStep (sealV (zs 16)) 2 ([88, 29, 107, 59, 159, 140, 16, 208], [254, 142, 117, 6, 59, 101, 12, 232, 141, 182, 238, 54, 64, 124, 91, 75]) 6 = ([180, 157, 201, 64, 190, 178, 54, 13], [190, 141, 15, 99, 69, 163, 43, 161, 141, 182, 238, 54, 64, 124, 91, 75]) :=
  (wStep_of ((seal0_is _).trans ((congrArg (encN rk0L · 11) (show [88, 29, 107, 59, 159, 140, 16, 208] ++ wordAt [254, 142, 117, 6, 59, 101, 12, 232, 141, 182, 238, 54, 64, 124, 91, 75] (6 % 2) = [88, 29, 107, 59, 159, 140, 16, 208, 254, 142, 117, 6, 59, 101, 12, 232] by decide +kernel)).trans wk6))).trans (pair_of (by decide +kernel))
theorem wk7 : encN rk0L [180, 157, 201, 64, 190, 178, 54, 13, 141, 182, 238, 54, 64, 124, 91, 75] 11 = [113, 139, 186, 176, 82, 158, 49, 28, 14, 146, 239, 24, 3, 82, 146, 204] := by decide +kernel
theorem wa7 : wStep (sealV (zs 16)) 2 ([180, 157, 201, 64, 190, 178, 54, 13], [190, 141, 15, 99, 69, 163, 43, 161, 141, 182, 238, 54, 64, 124, 91, 75]) 7 = ([113, 139, 186, 176, 82, 158, 49, 20], [190, 141, 15, 99, 69, 163, 43, 161, 14, 146, 239, 24, 3, 82, 146, 204]) :=
  (wStep_of ((seal0_is _).trans ((congrArg (encN rk0L · 11) (show [180, 157, 201, 64, 190, 178, 54, 13] ++ wordAt [190, 141, 15, 99, 69, 163, 43, 161, 141, 182, 238, 54, 64, 124, 91, 75] (7 % 2) = [180, 157, 201, 64, 190, 178, 54, 13, 141, 182, 238, 54, 64, 124, 91, 75] by decide +kernel)).trans wk7))).trans (pair_of (by decide +kernel))
theorem wk8 : encN rk0L [113, 139, 186, 176, 82, 158, 49, 20, 190, 141, 15, 99, 69, 163, 43, 161] 11 = [177, 12, 248, 93, 244, 184, 24, 1, 79, 59, 71, 5, 248, 205, 115, 144] := by decide +kernel
theorem wa8 : wStep (sealV (zs 16)) 2 ([113, 139, 186, 176, 82, 158, 49, 20], [190, 141, 15, 99, 69, 163, 43, 161, 14, 146, 239, 24, 3, 82, 146, 204]) 8 = ([177, 12, 248, 93, 244, 184, 24, 8], [79, 59, 71, 5, 248, 205, 115, 144, 14, 146, 239, 24, 3, 82, 146, 204]) :=
  (wStep_of ((seal0_is _).trans ((congrArg (encN rk0L · 11) (show [113, 139, 186, 176, 82, 158, 49, 20] ++ wordAt [190, 141, 15, 99, 69, 163, 43, 161, 14, 146, 239, 24, 3, 82, 146, 204] (8 % 2) = [113, 139, 186, 176, 82, 158, 49, 20, 190, 141, 15, 99, 69, 163, 43, 161] by decide +kernel)).trans wk8))).trans (pair_of (by decide +kernel))
theorem wk9 : encN rk0L [177, 12, 248, 93, 244, 184, 24, 8, 14, 146, 239, 24, 3, 82, 146, 204] 11 = [213, 147, 51, 215, 137, 52, 33, 123, 165, 76, 35, 172, 84, 175, 222, 236] := by decide +kernel
theorem wa9 : wStep (sealV (zs 16)) 2 ([177, 12, 248, 93, 244, 184, 24, 8], [79, 59, 71, 5, 248, 205, 115, 144, 14, 146, 239, 24, 3, 82, 146, 204]) 9 = ([213, 147, 51, 215, 137, 52, 33, 113], [79, 59, 71, 5, 248, 205, 115, 144, 165, 76, 35, 172, 84, 175, 222, 236]) :=
  (wStep_of ((seal0_is _).trans ((congrArg (encN rk0L · 11) (show [177, 12, 248, 93, 244, 184, 24, 8] ++ wordAt [79, 59, 71, 5, 248, 205, 115, 144, 14, 146, 239, 24, 3, 82, 146, 204] (9 % 2) = [177, 12, 248, 93, 244, 184, 24, 8, 14, 146, 239, 24, 3, 82, 146, 204] by decide +kernel)).trans wk9))).trans (pair_of (by decide +kernel))
theorem wk10 : encN rk0L [213, 147, 51, 215, 137, 52, 33, 113, 79, 59, 71, 5, 248, 205, 115, 144] 11 = [71, 70, 36, 244, 7, 212, 218, 80, 80, 9, 254, 150, 38, 228, 239, 226] := by decide +kernel
theorem wa10 : wStep (sealV (zs 16)) 2 ([213, 147, 51, 215, 137, 52, 33, 113], [79, 59, 71, 5, 248, 205, 115, 144, 165, 76, 35, 172, 84, 175, 222, 236]) 10 = ([71, 70, 36, 244, 7, 212, 218, 91], [80, 9, 254, 150, 38, 228, 239, 226, 165, 76, 35, 172, 84, 175, 222, 236]) :=
  (wStep_of ((seal0_is _).trans ((congrArg (encN rk0L · 11) (show [213, 147, 51, 215, 137, 52, 33, 113] ++ wordAt [79, 59, 71, 5, 248, 205, 115, 144, 165, 76, 35, 172, 84, 175, 222, 236] (10 % 2) = [213, 147, 51, 215, 137, 52, 33, 113, 79, 59, 71, 5, 248, 205, 115, 144] by decide +kernel)).trans wk10))).trans (pair_of (by decide +kernel))
theorem wk11 : encN rk0L [71, 70, 36, 244, 7, 212, 218, 91, 165, 76, 35, 172, 84, 175, 222, 236] 11 = [191, 59, 119, 181, 233, 12, 170, 147, 13, 237, 117, 238, 59, 26, 192, 213] := by decide +kernel
theorem wa11 : wStep (sealV (zs 16)) 2 ([71, 70, 36, 244, 7, 212, 218, 91], [80, 9, 254, 150, 38, 228, 239, 226, 165, 76, 35, 172, 84, 175, 222, 236]) 11 = ([191, 59, 119, 181, 233, 12, 170, 159], [80, 9, 254, 150, 38, 228, 239, 226, 13, 237, 117, 238, 59, 26, 192, 213]) :=
  (wStep_of ((seal0_is _).trans ((congrArg (encN rk0L · 11) (show [71, 70, 36, 244, 7, 212, 218, 91] ++ wordAt [80, 9, 254, 150, 38, 228, 239, 226, 165, 76, 35, 172, 84, 175, 222, 236] (11 % 2) = [71, 70, 36, 244, 7, 212, 218, 91, 165, 76, 35, 172, 84, 175, 222, 236] by decide +kernel)).trans wk11))).trans (pair_of (by decide +kernel))
theorem uk0 : decN rk3L [191, 59, 119, 181, 233, 12, 170, 147, 13, 237, 117, 238, 59, 26, 192, 213] 11 = [42, 248, 241, 85, 45, 87, 165, 82, 206, 167, 223, 190, 16, 249, 43, 183] := by decide +kernel
theorem ua0 : uStep (openV k3L) 2 ([191, 59, 119, 181, 233, 12, 170, 159], [80, 9, 254, 150, 38, 228, 239, 226, 13, 237, 117, 238, 59, 26, 192, 213]) 11 = ([42, 248, 241, 85, 45, 87, 165, 82], [80, 9, 254, 150, 38, 228, 239, 226, 206, 167, 223, 190, 16, 249, 43, 183]) :=
  (uStep_of ((open3_is _).trans ((congrArg (decN rk3L · 11) (show xorL [191, 59, 119, 181, 233, 12, 170, 159] (beB (11 + 1) 8) ++ wordAt [80, 9, 254, 150, 38, 228, 239, 226, 13, 237, 117, 238, 59, 26, 192, 213] (11 % 2) = [191, 59, 119, 181, 233, 12, 170, 147, 13, 237, 117, 238, 59, 26, 192, 213] by decide +kernel)).trans uk0))).trans (pair_of (by decide +kernel))
theorem uk1 : decN rk3L [42, 248, 241, 85, 45, 87, 165, 89, 80, 9, 254, 150, 38, 228, 239, 226] 11 = [134, 126, 223, 183, 222, 22, 123, 113, 69, 38, 45, 131, 172, 114, 33, 112] := by decide +kernel
theorem ua1 : uStep (openV k3L) 2 ([42, 248, 241, 85, 45, 87, 165, 82], [80, 9, 254, 150, 38, 228, 239, 226, 206, 167, 223, 190, 16, 249, 43, 183]) 10 = ([134, 126, 223, 183, 222, 22, 123, 113], [69, 38, 45, 131, 172, 114, 33, 112, 206, 167, 223, 190, 16, 249, 43, 183]) :=
  (uStep_of ((open3_is _).trans ((congrArg (decN rk3L · 11) (show xorL [42, 248, 241, 85, 45, 87, 165, 82] (beB (10 + 1) 8) ++ wordAt [80, 9, 254, 150, 38, 228, 239, 226, 206, 167, 223, 190, 16, 249, 43, 183] (10 % 2) = [42, 248, 241, 85, 45, 87, 165, 89, 80, 9, 254, 150, 38, 228, 239, 226] by decide +kernel)).trans uk1))).trans (pair_of (by decide +kernel))
theorem uk2 : decN rk3L [134, 126, 223, 183, 222, 22, 123, 123, 206, 167, 223, 190, 16, 249, 43, 183] 11 = [184, 119, 191, 149, 79, 121, 214, 79, 255, 43, 21, 203, 84, 201, 201, 144] := by decide +kernel
theorem ua2 : uStep (openV k3L) 2 ([134, 126, 223, 183, 222, 22, 123, 113], [69, 38, 45, 131, 172, 114, 33, 112, 206, 167, 223, 190, 16, 249, 43, 183]) 9 = ([184, 119, 191, 149, 79, 121, 214, 79], [69, 38, 45, 131, 172, 114, 33, 112, 255, 43, 21, 203, 84, 201, 201, 144]) :=
  (uStep_of ((open3_is _).trans ((congrArg (decN rk3L · 11) (show xorL [134, 126, 223, 183, 222, 22, 123, 113] (beB (9 + 1) 8) ++ wordAt [69, 38, 45, 131, 172, 114, 33, 112, 206, 167, 223, 190, 16, 249, 43, 183] (9 % 2) = [134, 126, 223, 183, 222, 22, 123, 123, 206, 167, 223, 190, 16, 249, 43, 183] by decide +kernel)).trans uk2))).trans (pair_of (by decide +kernel))
theorem uk3 : decN rk3L [184, 119, 191, 149, 79, 121, 214, 70, 69, 38, 45, 131, 172, 114, 33, 112] 11 = [67, 88, 41, 147, 75, 254, 189, 40, 162, 168, 85, 232, 253, 65, 217, 135] := by decide +kernel
theorem ua3 : uStep (openV k3L) 2 ([184, 119, 191, 149, 79, 121, 214, 79], [69, 38, 45, 131, 172, 114, 33, 112, 255, 43, 21, 203, 84, 201, 201, 144]) 8 = ([67, 88, 41, 147, 75, 254, 189, 40], [162, 168, 85, 232, 253, 65, 217, 135, 255, 43, 21, 203, 84, 201, 201, 144]) :=
  (uStep_of ((open3_is _).trans ((congrArg (decN rk3L · 11) (show xorL [184, 119, 191, 149, 79, 121, 214, 79] (beB (8 + 1) 8) ++ wordAt [69, 38, 45, 131, 172, 114, 33, 112, 255, 43, 21, 203, 84, 201, 201, 144] (8 % 2) = [184, 119, 191, 149, 79, 121, 214, 70, 69, 38, 45, 131, 172, 114, 33, 112] by decide +kernel)).trans uk3))).trans (pair_of (by decide +kernel))
theorem uk4 : decN rk3L [67, 88, 41, 147, 75, 254, 189, 32, 255, 43, 21, 203, 84, 201, 201, 144] 11 = [249, 29, 199, 28, 7, 74, 118, 179, 92, 9, 182, 253, 2, 149, 87, 119] := by decide +kernel
theorem ua4 : uStep (openV k3L) 2 ([67, 88, 41, 147, 75, 254, 189, 40], [162, 168, 85, 232, 253, 65, 217, 135, 255, 43, 21, 203, 84, 201, 201, 144]) 7 = ([249, 29, 199, 28, 7, 74, 118, 179], [162, 168, 85, 232, 253, 65, 217, 135, 92, 9, 182, 253, 2, 149, 87, 119]) :=
  (uStep_of ((open3_is _).trans ((congrArg (decN rk3L · 11) (show xorL [67, 88, 41, 147, 75, 254, 189, 40] (beB (7 + 1) 8) ++ wordAt [162, 168, 85, 232, 253, 65, 217, 135, 255, 43, 21, 203, 84, 201, 201, 144] (7 % 2) = [67, 88, 41, 147, 75, 254, 189, 32, 255, 43, 21, 203, 84, 201, 201, 144] by decide +kernel)).trans uk4))).trans (pair_of (by decide +kernel))
theorem uk5 : decN rk3L [249, 29, 199, 28, 7, 74, 118, 180, 162, 168, 85, 232, 253, 65, 217, 135] 11 = [132, 108, 204, 179, 2, 88, 118, 214, 73, 253, 94, 7, 99, 66, 123, 79] := by decide +kernel
theorem ua5 : uStep (openV k3L) 2 ([249, 29, 199, 28, 7, 74, 118, 179], [162, 168, 85, 232, 253, 65, 217, 135, 92, 9, 182, 253, 2, 149, 87, 119]) 6 = ([132, 108, 204, 179, 2, 88, 118, 214], [73, 253, 94, 7, 99, 66, 123, 79, 92, 9, 182, 253, 2, 149, 87, 119]) :=
  (uStep_of ((open3_is _).trans ((congrArg (decN rk3L · 11) (show xorL [249, 29, 199, 28, 7, 74, 118, 179] (beB (6 + 1) 8) ++ wordAt [162, 168, 85, 232, 253, 65, 217, 135, 92, 9, 182, 253, 2, 149, 87, 119] (6 % 2) = [249, 29, 199, 28, 7, 74, 118, 180, 162, 168, 85, 232, 253, 65, 217, 135] by decide +kernel)).trans uk5))).trans (pair_of (by decide +kernel))
theorem uk6 : decN rk3L [132, 108, 204, 179, 2, 88, 118, 208, 92, 9, 182, 253, 2, 149, 87, 119] 11 = [246, 215, 52, 0, 183, 10, 151, 191, 111, 104, 1, 19, 128, 246, 40, 114] := by decide +kernel
theorem ua6 : uStep (openV k3L) 2 ([132, 108, 204, 179, 2, 88, 118, 214], [73, 253, 94, 7, 99, 66, 123, 79, 92, 9, 182, 253, 2, 149, 87, 119]) 5 = ([246, 215, 52, 0, 183, 10, 151, 191], [73, 253, 94, 7, 99, 66, 123, 79, 111, 104, 1, 19, 128, 246, 40, 114]) :=
  (uStep_of ((open3_is _).trans ((congrArg (decN rk3L · 11) (show xorL [132, 108, 204, 179, 2, 88, 118, 214] (beB (5 + 1) 8) ++ wordAt [73, 253, 94, 7, 99, 66, 123, 79, 92, 9, 182, 253, 2, 149, 87, 119] (5 % 2) = [132, 108, 204, 179, 2, 88, 118, 208, 92, 9, 182, 253, 2, 149, 87, 119] by decide +kernel)).trans uk6))).trans (pair_of (by decide +kernel))
theorem uk7 : decN rk3L [246, 215, 52, 0, 183, 10, 151, 186, 73, 253, 94, 7, 99, 66, 123, 79] 11 = [186, 91, 124, 214, 245, 150, 176, 14, 49, 107, 33, 93, 236, 79, 55, 129] := by decide +kernel
theorem ua7 : uStep (openV k3L) 2 ([246, 215, 52, 0, 183, 10, 151, 191], [73, 253, 94, 7, 99, 66, 123, 79, 111, 104, 1, 19, 128, 246, 40, 114]) 4 = ([186, 91, 124, 214, 245, 150, 176, 14], [49, 107, 33, 93, 236, 79, 55, 129, 111, 104, 1, 19, 128, 246, 40, 114]) :=
  (uStep_of ((open3_is _).trans ((congrArg (decN rk3L · 11) (show xorL [246, 215, 52, 0, 183, 10, 151, 191] (beB (4 + 1) 8) ++ wordAt [73, 253, 94, 7, 99, 66, 123, 79, 111, 104, 1, 19, 128, 246, 40, 114] (4 % 2) = [246, 215, 52, 0, 183, 10, 151, 186, 73, 253, 94, 7, 99, 66, 123, 79] by decide +kernel)).trans uk7))).trans (pair_of (by decide +kernel))
theorem uk8 : decN rk3L [186, 91, 124, 214, 245, 150, 176, 10, 111, 104, 1, 19, 128, 246, 40, 114] 11 = [232, 219, 127, 45, 12, 189, 230, 189, 186, 164, 15, 242, 53, 69, 210, 209] := by decide +kernel
theorem ua8 : uStep (openV k3L) 2 ([186, 91, 124, 214, 245, 150, 176, 14], [49, 107, 33, 93, 236, 79, 55, 129, 111, 104, 1, 19, 128, 246, 40, 114]) 3 = ([232, 219, 127, 45, 12, 189, 230, 189], [49, 107, 33, 93, 236, 79, 55, 129, 186, 164, 15, 242, 53, 69, 210, 209]) :=
  (uStep_of ((open3_is _).trans ((congrArg (decN rk3L · 11) (show xorL [186, 91, 124, 214, 245, 150, 176, 14] (beB (3 + 1) 8) ++ wordAt [49, 107, 33, 93, 236, 79, 55, 129, 111, 104, 1, 19, 128, 246, 40, 114] (3 % 2) = [186, 91, 124, 214, 245, 150, 176, 10, 111, 104, 1, 19, 128, 246, 40, 114] by decide +kernel)).trans uk8))).trans (pair_of (by decide +kernel))
theorem uk9 : decN rk3L [232, 219, 127, 45, 12, 189, 230, 190, 49, 107, 33, 93, 236, 79, 55, 129] 11 = [105, 224, 201, 235, 110, 71, 60, 83, 134, 81, 135, 135, 206, 193, 117, 103] := by decide +kernel
theorem ua9 : uStep (openV k3L) 2 ([232, 219, 127, 45, 12, 189, 230, 189], [49, 107, 33, 93, 236, 79, 55, 129, 186, 164, 15, 242, 53, 69, 210, 209]) 2 = ([105, 224, 201, 235, 110, 71, 60, 83], [134, 81, 135, 135, 206, 193, 117, 103, 186, 164, 15, 242, 53, 69, 210, 209]) :=
  (uStep_of ((open3_is _).trans ((congrArg (decN rk3L · 11) (show xorL [232, 219, 127, 45, 12, 189, 230, 189] (beB (2 + 1) 8) ++ wordAt [49, 107, 33, 93, 236, 79, 55, 129, 186, 164, 15, 242, 53, 69, 210, 209] (2 % 2) = [232, 219, 127, 45, 12, 189, 230, 190, 49, 107, 33, 93, 236, 79, 55, 129] by decide +kernel)).trans uk9))).trans (pair_of (by decide +kernel))
theorem uk10 : decN rk3L [105, 224, 201, 235, 110, 71, 60, 81, 186, 164, 15, 242, 53, 69, 210, 209] 11 = [65, 176, 206, 85, 0, 128, 239, 96, 8, 99, 75, 115, 144, 147, 90, 62] := by decide +kernel
theorem ua10 : uStep (openV k3L) 2 ([105, 224, 201, 235, 110, 71, 60, 83], [134, 81, 135, 135, 206, 193, 117, 103, 186, 164, 15, 242, 53, 69, 210, 209]) 1 = ([65, 176, 206, 85, 0, 128, 239, 96], [134, 81, 135, 135, 206, 193, 117, 103, 8, 99, 75, 115, 144, 147, 90, 62]) :=
  (uStep_of ((open3_is _).trans ((congrArg (decN rk3L · 11) (show xorL [105, 224, 201, 235, 110, 71, 60, 83] (beB (1 + 1) 8) ++ wordAt [134, 81, 135, 135, 206, 193, 117, 103, 186, 164, 15, 242, 53, 69, 210, 209] (1 % 2) = [105, 224, 201, 235, 110, 71, 60, 81, 186, 164, 15, 242, 53, 69, 210, 209] by decide +kernel)).trans uk10))).trans (pair_of (by decide +kernel))
theorem uk11 : decN rk3L [65, 176, 206, 85, 0, 128, 239, 97, 134, 81, 135, 135, 206, 193, 117, 103] 11 = [212, 43, 134, 74, 119, 146, 159, 8, 82, 220, 114, 80, 70, 120, 161, 242] := by decide +kernel
theorem ua11 : uStep (openV k3L) 2 ([65, 176, 206, 85, 0, 128, 239, 96], [134, 81, 135, 135, 206, 193, 117, 103, 8, 99, 75, 115, 144, 147, 90, 62]) 0 = ([212, 43, 134, 74, 119, 146, 159, 8], [82, 220, 114, 80, 70, 120, 161, 242, 8, 99, 75, 115, 144, 147, 90, 62]) :=
  (uStep_of ((open3_is _).trans ((congrArg (decN rk3L · 11) (show xorL [65, 176, 206, 85, 0, 128, 239, 96] (beB (0 + 1) 8) ++ wordAt [134, 81, 135, 135, 206, 193, 117, 103, 8, 99, 75, 115, 144, 147, 90, 62] (0 % 2) = [65, 176, 206, 85, 0, 128, 239, 97, 134, 81, 135, 135, 206, 193, 117, 103] by decide +kernel)).trans uk11))).trans (pair_of (by decide +kernel))
theorem wa_all : wSteps (sealV (zs 16)) 2 (a6L, zs 16) 12 = ([191, 59, 119, 181, 233, 12, 170, 159], [80, 9, 254, 150, 38, 228, 239, 226, 13, 237, 117, 238, 59, 26, 192, 213]) := by
  have e : (a6L, zs 16) = (([166, 166, 166, 166, 166, 166, 166, 166], [0, 0, 0, 0, 0, 0, 0, 0, 0, 0, 0, 0, 0, 0, 0, 0]) : List UInt8 × List UInt8) := pair_of (by decide +kernel)
  rw [e]
  simp only [wSteps_succ, wSteps_zero, wa0, wa1, wa2, wa3, wa4, wa5, wa6, wa7, wa8, wa9, wa10, wa11]
theorem ua_all : uSteps (openV k3L) 2 ([191, 59, 119, 181, 233, 12, 170, 159], [80, 9, 254, 150, 38, 228, 239, 226, 13, 237, 117, 238, 59, 26, 192, 213]) 12 = ([212, 43, 134, 74, 119, 146, 159, 8], [82, 220, 114, 80, 70, 120, 161, 242, 8, 99, 75, 115, 144, 147, 90, 62]) := by
  simp only [uSteps_succ, uSteps_zero, ua0, ua1, ua2, ua3, ua4, ua5, ua6, ua7, ua8, ua9, ua10, ua11]
end Go.Proofs.Ytknkkcbihaojhaa

namespace Go.Proofs.Ytknkkcbihaojhaa
open Go.ChangeShapes Go.WideShapes Go.ChangeAt Go.RowKit
/-- A text of noughts, wrapped; and that it isn't unwrapped with another key. -/
def w0L : List UInt8 := [191, 59, 119, 181, 233, 12, 170, 159, 80, 9, 254, 150, 38, 228, 239, 226, 13, 237, 117, 238, 59, 26, 192, 213]
theorem wrap_zs : wrapV (zs 16) (zs 16) = w0L := by
  have e : (zs 16).length / 8 = 2 := by rw [zs_len]
  unfold wrapV wrapX
  rw [e, show 6 * 2 = 12 from rfl, wa_all]
  rfl
theorem wrap_alive : ((unwrapX k3L w0L).1 == a6L) = false := by
  have e : w0L.length / 8 - 1 = 2 := rfl
  have e2 : (w0L.take 8, w0L.drop 8) = ([191, 59, 119, 181, 233, 12, 170, 159], [80, 9, 254, 150, 38, 228, 239, 226, 13, 237, 117, 238, 59, 26, 192, 213]) := rfl
  unfold unwrapX
  rw [e, e2, show 6 * 2 = 12 from rfl, ua_all]
  rfl
end Go.Proofs.Ytknkkcbihaojhaa

namespace Go.Proofs.Ytknkkcbihaojhaa
open Go.ChangeShapes Go.WideShapes Go.ChangeAt Go.RowKit
attribute [local irreducible] wpList wpListIn
set_option maxRecDepth 100000 in
set_option maxHeartbeats 1000000 in
theorem clone_any (v : Value) (l : List UInt8) (hne : l ≠ []) (hm : l.length ≤ 1000000000) (w : World) (hv : BytesAt w v l) :
    Calls Try.prog 45 #[v] w fun e w' => ∃ g c sp, e = .returned (.slice (some ⟨g, 0, none⟩) l.length c) ∧ (l.length ≤ c ∧ c ≤ maxLen) ∧ w.heap.size ≤ g ∧ blk w' g = some (.cells (l.map bv ++ sp).toArray 5 (0, 0)) ∧ Below w.heap.size w w' := by
  obtain ⟨p, c, rfl, hc, hp0, hcell⟩ := id hv
  obtain ⟨tb, ti, cs, ty, fr, rfl, htb, hx⟩ := hcell hne
  have hS := St.start w
  go_enter Try.func45, Try.ntmps45
  repeat' (first | ((with_reducible refine cons_list ?_); first | ((first | refine g_skip stp_list ?_ | refine g_move stp_list ?_ | refine g_assign stp_list ?_ | refine g_load1 stp_list own_st hS ?_ | refine g_loadR stp_list own_st hS ?_ | refine g_indexAddr stp_list ?_ | refine g_indexAddrA stp_list ?_ | refine g_len stp_list ?_ | refine g_cap stp_list ?_ | refine g_extract stp_list ?_ | refine g_add stp_list ?_ | refine g_sub stp_list ?_ | refine g_mul stp_list ?_ | refine g_quo stp_list ?_ | refine g_rem stp_list ?_ | refine g_cmp_t stp_list ?_ | refine g_cmp_f stp_list ?_ | refine g_cmp stp_list (fun hc => ?_) (fun hc => ?_) | refine g_neqNil stp_list ?_ | refine g_neqNil0 stp_list ?_ | refine g_eqlNil stp_list ?_ | refine g_eqlNil0 stp_list ?_ | refine g_fieldAddr stp_list ?_ | refine g_field1 stp_list ?_ | refine g_fieldR stp_list ?_ | refine g_eqlSlNil stp_list ?_ | refine g_neqSlNil stp_list ?_ | refine g_makeInterface stp_list ?_ | refine g_makeFunc stp_list ?_ | refine g_conv stp_list ?_ | refine g_pick stp_list ?_ | refine g_not stp_list ?_ | refine g_slice stp_list ?_ | refine g_sliceA stp_list ?_ | refine g_sliceNil stp_list ?_) <;> refine put_in ?_) | ((first | refine g_alloc stp_list own_st hS ?_ | refine g_box stp_list own_st hS ?_ | refine g_build0 stp_list own_st hS ?_ | refine g_build stp_list own_st hS ?_ | refine g_make stp_list own_st hS ?_); clear hS; intro b w hS; refine put_in ?_) | ((first | refine g_store1 stp_list own_st hS ?_ | refine g_storeR stp_list own_st hS ?_); clear hS; intro w hS; refine put_in ?_)) | ((fail_if_success (with_reducible refine cons_list ?_)); first | go_step | go_step3 | rw [Exit.noGoto_normal] | rw [Exit.noGoto_ret] | rw [Exit.noGoto_exit]))
  refine s_append stp_list own_st hS (by rfl) (by rfl) (by rfl) (by rfl) (by infer_instance) (by exact at_ 0 rfl) (olds := []) (spare := []) (by rfl) (by rfl) (by omega) (by rfl) (hv.below hS.below).srcs (by rw [List.length_map, Nat.mul_one]) (bv_one l) (by unfold maxLen; omega) (by (try conv => lhs; simp only [Int.toNat_natCast, Int.toNat_zero, Int.toNat_one, Int.reduceToNat, Int.toNat_natCast_add_one, Int.ofNat_eq_natCast, Nat.mul_one, Nat.one_mul, Nat.zero_add, Nat.add_zero, Nat.sub_zero, Nat.zero_mul, Nat.reduceAdd, Nat.reduceMul, Nat.reduceSub]); first | done | rfl) ?_
  clear hS
  intro b' c' sp w' h1 h2 h3 hS
  refine put_in ?_
  repeat' (first | ((with_reducible refine cons_list ?_); first | ((first | refine g_skip stp_list ?_ | refine g_move stp_list ?_ | refine g_assign stp_list ?_ | refine g_load1 stp_list own_st hS ?_ | refine g_loadR stp_list own_st hS ?_ | refine g_indexAddr stp_list ?_ | refine g_indexAddrA stp_list ?_ | refine g_len stp_list ?_ | refine g_cap stp_list ?_ | refine g_extract stp_list ?_ | refine g_add stp_list ?_ | refine g_sub stp_list ?_ | refine g_mul stp_list ?_ | refine g_quo stp_list ?_ | refine g_rem stp_list ?_ | refine g_cmp_t stp_list ?_ | refine g_cmp_f stp_list ?_ | refine g_cmp stp_list (fun hc => ?_) (fun hc => ?_) | refine g_neqNil stp_list ?_ | refine g_neqNil0 stp_list ?_ | refine g_eqlNil stp_list ?_ | refine g_eqlNil0 stp_list ?_ | refine g_fieldAddr stp_list ?_ | refine g_field1 stp_list ?_ | refine g_fieldR stp_list ?_ | refine g_eqlSlNil stp_list ?_ | refine g_neqSlNil stp_list ?_ | refine g_makeInterface stp_list ?_ | refine g_makeFunc stp_list ?_ | refine g_conv stp_list ?_ | refine g_pick stp_list ?_ | refine g_not stp_list ?_ | refine g_slice stp_list ?_ | refine g_sliceA stp_list ?_ | refine g_sliceNil stp_list ?_) <;> refine put_in ?_) | ((first | refine g_alloc stp_list own_st hS ?_ | refine g_box stp_list own_st hS ?_ | refine g_build0 stp_list own_st hS ?_ | refine g_build stp_list own_st hS ?_ | refine g_make stp_list own_st hS ?_); clear hS; intro b w hS; refine put_in ?_) | ((first | refine g_store1 stp_list own_st hS ?_ | refine g_storeR stp_list own_st hS ?_); clear hS; intro w hS; refine put_in ?_)) | ((fail_if_success (with_reducible refine cons_list ?_)); first | go_step | go_step3 | rw [Exit.noGoto_normal] | rw [Exit.noGoto_ret] | rw [Exit.noGoto_exit]))
  go_ret
  exact ⟨b', c', sp, rfl, ⟨by omega, h2⟩, (hS.2.1 _ (List.mem_cons_self ..)).1, hS.blk 0 rfl, hS.below⟩
set_option maxRecDepth 100000 in
set_option maxHeartbeats 1000000 in
theorem grow_none (n : Nat) (hn : 0 < n) (hm : n ≤ 1000000000) (w : World) :
    Calls Try.prog 51 #[.slice none 0 0, .int .i64 (n : Int)] w fun e w' => ∃ g c, e = .returned (.slice (some ⟨g, 0, none⟩) 0 c) ∧ n ≤ c ∧ c ≤ maxLen ∧ w.heap.size ≤ g ∧ blk w' g = some (.cells (bvs (zs c)) 5 (0, 0)) ∧ Below w.heap.size w w' := by
  have hS := St.start w
  go_enter Try.func51, Try.ntmps51
  repeat' (first | ((with_reducible refine cons_list ?_); first | ((first | refine g_skip stp_list ?_ | refine g_move stp_list ?_ | refine g_assign stp_list ?_ | refine g_load1 stp_list own_st hS ?_ | refine g_loadR stp_list own_st hS ?_ | refine g_indexAddr stp_list ?_ | refine g_indexAddrA stp_list ?_ | refine g_len stp_list ?_ | refine g_cap stp_list ?_ | refine g_extract stp_list ?_ | refine g_add stp_list ?_ | refine g_sub stp_list ?_ | refine g_mul stp_list ?_ | refine g_quo stp_list ?_ | refine g_rem stp_list ?_ | refine g_cmp_t stp_list ?_ | refine g_cmp_f stp_list ?_ | refine g_cmp stp_list (fun hc => ?_) (fun hc => ?_) | refine g_neqNil stp_list ?_ | refine g_neqNil0 stp_list ?_ | refine g_eqlNil stp_list ?_ | refine g_eqlNil0 stp_list ?_ | refine g_fieldAddr stp_list ?_ | refine g_field1 stp_list ?_ | refine g_fieldR stp_list ?_ | refine g_eqlSlNil stp_list ?_ | refine g_neqSlNil stp_list ?_ | refine g_makeInterface stp_list ?_ | refine g_makeFunc stp_list ?_ | refine g_conv stp_list ?_ | refine g_pick stp_list ?_ | refine g_not stp_list ?_ | refine g_slice stp_list ?_ | refine g_sliceA stp_list ?_ | refine g_sliceNil stp_list ?_) <;> refine put_in ?_) | ((first | refine g_alloc stp_list own_st hS ?_ | refine g_box stp_list own_st hS ?_ | refine g_build0 stp_list own_st hS ?_ | refine g_build stp_list own_st hS ?_ | refine g_make stp_list own_st hS ?_); clear hS; intro b w hS; refine put_in ?_) | ((first | refine g_store1 stp_list own_st hS ?_ | refine g_storeR stp_list own_st hS ?_); clear hS; intro w hS; refine put_in ?_)) | ((fail_if_success (with_reducible refine cons_list ?_)); first | go_step | go_step3 | rw [Exit.noGoto_normal] | rw [Exit.noGoto_ret] | rw [Exit.noGoto_exit]))
  refine s_appendZ stp_list own_st hS (by rfl) (by rfl) (by rfl) (by rfl) (by infer_instance) (by infer_instance) (by exact Try.underlying3) ⟨hn, hm⟩ ?_
  clear hS
  intro b' c' w' h1 h2 hS
  refine put_in ?_
  repeat' (first | ((with_reducible refine cons_list ?_); first | ((first | refine g_skip stp_list ?_ | refine g_move stp_list ?_ | refine g_assign stp_list ?_ | refine g_load1 stp_list own_st hS ?_ | refine g_loadR stp_list own_st hS ?_ | refine g_indexAddr stp_list ?_ | refine g_indexAddrA stp_list ?_ | refine g_len stp_list ?_ | refine g_cap stp_list ?_ | refine g_extract stp_list ?_ | refine g_add stp_list ?_ | refine g_sub stp_list ?_ | refine g_mul stp_list ?_ | refine g_quo stp_list ?_ | refine g_rem stp_list ?_ | refine g_cmp_t stp_list ?_ | refine g_cmp_f stp_list ?_ | refine g_cmp stp_list (fun hc => ?_) (fun hc => ?_) | refine g_neqNil stp_list ?_ | refine g_neqNil0 stp_list ?_ | refine g_eqlNil stp_list ?_ | refine g_eqlNil0 stp_list ?_ | refine g_fieldAddr stp_list ?_ | refine g_field1 stp_list ?_ | refine g_fieldR stp_list ?_ | refine g_eqlSlNil stp_list ?_ | refine g_neqSlNil stp_list ?_ | refine g_makeInterface stp_list ?_ | refine g_makeFunc stp_list ?_ | refine g_conv stp_list ?_ | refine g_pick stp_list ?_ | refine g_not stp_list ?_ | refine g_slice stp_list ?_ | refine g_sliceA stp_list ?_ | refine g_sliceNil stp_list ?_) <;> refine put_in ?_) | ((first | refine g_alloc stp_list own_st hS ?_ | refine g_box stp_list own_st hS ?_ | refine g_build0 stp_list own_st hS ?_ | refine g_build stp_list own_st hS ?_ | refine g_make stp_list own_st hS ?_); clear hS; intro b w hS; refine put_in ?_) | ((first | refine g_store1 stp_list own_st hS ?_ | refine g_storeR stp_list own_st hS ?_); clear hS; intro w hS; refine put_in ?_)) | ((fail_if_success (with_reducible refine cons_list ?_)); first | go_step | go_step3 | rw [Exit.noGoto_normal] | rw [Exit.noGoto_ret] | rw [Exit.noGoto_exit]))
  go_ret
  exact ⟨b', c', rfl, h1, h2, (hS.2.1 _ (List.mem_cons_self ..)).1, hS.blk 0 rfl, hS.below⟩
set_option maxRecDepth 100000 in
set_option maxHeartbeats 2000000 in
theorem concat_x (v1 v2 : Value) (l1 l2 : List UInt8) (hne1 : l1 ≠ []) (hne2 : l2 ≠ []) (hm : l1.length + l2.length ≤ 1000000000) (bb : Nat) (fr : Nat × Nat) (w : World) (hv1 : BytesAt w v1 l1) (hv2 : BytesAt w v2 l2) (hbb : blk w bb = some (.cells #[v1, v2] 22 fr)) :
    Calls Try.prog 31 #[.slice (some ⟨bb, 0, none⟩) 2 2] w fun e w' => ∃ g c sp, e = .returned (.slice (some ⟨g, 0, none⟩) (l1.length + l2.length) c) ∧ (l1.length + l2.length ≤ c ∧ c ≤ maxLen ∧ sp.length = c - (l1.length + l2.length)) ∧ w.heap.size ≤ g ∧ blk w' g = some (.cells ((l1 ++ l2).map bv ++ sp).toArray 5 (0, 0)) ∧ Below w.heap.size w w' := by
  obtain ⟨p1, c1, rfl, hc1, hp1, hcell1⟩ := id hv1
  obtain ⟨tb1, ti1, cs1, ty1, fr1, rfl, htb1, hx1⟩ := hcell1 hne1
  obtain ⟨p2, c2, rfl, hc2, hp2, hcell2⟩ := id hv2
  obtain ⟨tb2, ti2, cs2, ty2, fr2, rfl, htb2, hx2⟩ := hcell2 hne2
  have n1 := List.length_pos_iff.2 hne1
  have n2 := List.length_pos_iff.2 hne2
  have hS := St.start w
  go_enter Try.func31, Try.ntmps31
  repeat' (first | ((with_reducible refine cons_list ?_); first | ((first | refine g_skip stp_list ?_ | refine g_move stp_list ?_ | refine g_assign stp_list ?_ | refine g_load1 stp_list own_st hS ?_ | refine g_load1F stp_list (by first | exact ((hS).far hbb).1) ?_ | refine g_loadR stp_list own_st hS ?_ | refine g_loadRF stp_list (by first | exact ((hS).far hbb).1) ?_ | refine g_indexAddr stp_list ?_ | refine g_indexAddrA stp_list ?_ | refine g_len stp_list ?_ | refine g_cap stp_list ?_ | refine g_extract stp_list ?_ | refine g_add stp_list ?_ | refine g_sub stp_list ?_ | refine g_mul stp_list ?_ | refine g_quo stp_list ?_ | refine g_rem stp_list ?_ | refine g_cmp_t stp_list ?_ | refine g_cmp_f stp_list ?_ | refine g_cmp stp_list (fun hc => ?_) (fun hc => ?_) | refine g_neqNil stp_list ?_ | refine g_neqNil0 stp_list ?_ | refine g_eqlNil stp_list ?_ | refine g_eqlNil0 stp_list ?_ | refine g_fieldAddr stp_list ?_ | refine g_field1 stp_list ?_ | refine g_fieldR stp_list ?_ | refine g_eqlSlNil stp_list ?_ | refine g_neqSlNil stp_list ?_ | refine g_makeInterface stp_list ?_ | refine g_makeFunc stp_list ?_ | refine g_conv stp_list ?_ | refine g_pick stp_list ?_ | refine g_not stp_list ?_ | refine g_slice stp_list ?_ | refine g_sliceA stp_list ?_ | refine g_sliceNil stp_list ?_) <;> refine put_in ?_) | ((first | refine g_alloc stp_list own_st hS ?_ | refine g_box stp_list own_st hS ?_ | refine g_build0 stp_list own_st hS ?_ | refine g_build stp_list own_st hS ?_ | refine g_make stp_list own_st hS ?_); clear hS; intro b w hS; refine put_in ?_) | ((first | refine g_store1 stp_list own_st hS ?_ | refine g_storeR stp_list own_st hS ?_); clear hS; intro w hS; refine put_in ?_)) | ((fail_if_success (with_reducible refine cons_list ?_)); first | go_step | go_step3 | rw [Exit.noGoto_normal] | rw [Exit.noGoto_ret] | rw [Exit.noGoto_exit]))
  refine wp_loop_rounds 3 ?_
  rw [rounds_succ]
  repeat' (first | ((with_reducible refine cons_list ?_); first | ((first | refine g_skip stp_list ?_ | refine g_move stp_list ?_ | refine g_assign stp_list ?_ | refine g_load1 stp_list own_st hS ?_ | refine g_load1F stp_list (by first | exact ((hS).far hbb).1) ?_ | refine g_loadR stp_list own_st hS ?_ | refine g_loadRF stp_list (by first | exact ((hS).far hbb).1) ?_ | refine g_indexAddr stp_list ?_ | refine g_indexAddrA stp_list ?_ | refine g_len stp_list ?_ | refine g_cap stp_list ?_ | refine g_extract stp_list ?_ | refine g_add stp_list ?_ | refine g_sub stp_list ?_ | refine g_mul stp_list ?_ | refine g_quo stp_list ?_ | refine g_rem stp_list ?_ | refine g_cmp_t stp_list ?_ | refine g_cmp_f stp_list ?_ | refine g_cmp stp_list (fun hc => ?_) (fun hc => ?_) | refine g_neqNil stp_list ?_ | refine g_neqNil0 stp_list ?_ | refine g_eqlNil stp_list ?_ | refine g_eqlNil0 stp_list ?_ | refine g_fieldAddr stp_list ?_ | refine g_field1 stp_list ?_ | refine g_fieldR stp_list ?_ | refine g_eqlSlNil stp_list ?_ | refine g_neqSlNil stp_list ?_ | refine g_makeInterface stp_list ?_ | refine g_makeFunc stp_list ?_ | refine g_conv stp_list ?_ | refine g_pick stp_list ?_ | refine g_not stp_list ?_ | refine g_slice stp_list ?_ | refine g_sliceA stp_list ?_ | refine g_sliceNil stp_list ?_) <;> refine put_in ?_) | ((first | refine g_alloc stp_list own_st hS ?_ | refine g_box stp_list own_st hS ?_ | refine g_build0 stp_list own_st hS ?_ | refine g_build stp_list own_st hS ?_ | refine g_make stp_list own_st hS ?_); clear hS; intro b w hS; refine put_in ?_) | ((first | refine g_store1 stp_list own_st hS ?_ | refine g_storeR stp_list own_st hS ?_); clear hS; intro w hS; refine put_in ?_)) | ((fail_if_success (with_reducible refine cons_list ?_)); first | go_step | go_step3 | rw [Exit.noGoto_normal] | rw [Exit.noGoto_ret] | rw [Exit.noGoto_exit]))
  rw [rounds_succ]
  repeat' (first | ((with_reducible refine cons_list ?_); first | ((first | refine g_skip stp_list ?_ | refine g_move stp_list ?_ | refine g_assign stp_list ?_ | refine g_load1 stp_list own_st hS ?_ | refine g_load1F stp_list (by first | exact ((hS).far hbb).1) ?_ | refine g_loadR stp_list own_st hS ?_ | refine g_loadRF stp_list (by first | exact ((hS).far hbb).1) ?_ | refine g_indexAddr stp_list ?_ | refine g_indexAddrA stp_list ?_ | refine g_len stp_list ?_ | refine g_cap stp_list ?_ | refine g_extract stp_list ?_ | refine g_add stp_list ?_ | refine g_sub stp_list ?_ | refine g_mul stp_list ?_ | refine g_quo stp_list ?_ | refine g_rem stp_list ?_ | refine g_cmp_t stp_list ?_ | refine g_cmp_f stp_list ?_ | refine g_cmp stp_list (fun hc => ?_) (fun hc => ?_) | refine g_neqNil stp_list ?_ | refine g_neqNil0 stp_list ?_ | refine g_eqlNil stp_list ?_ | refine g_eqlNil0 stp_list ?_ | refine g_fieldAddr stp_list ?_ | refine g_field1 stp_list ?_ | refine g_fieldR stp_list ?_ | refine g_eqlSlNil stp_list ?_ | refine g_neqSlNil stp_list ?_ | refine g_makeInterface stp_list ?_ | refine g_makeFunc stp_list ?_ | refine g_conv stp_list ?_ | refine g_pick stp_list ?_ | refine g_not stp_list ?_ | refine g_slice stp_list ?_ | refine g_sliceA stp_list ?_ | refine g_sliceNil stp_list ?_) <;> refine put_in ?_) | ((first | refine g_alloc stp_list own_st hS ?_ | refine g_box stp_list own_st hS ?_ | refine g_build0 stp_list own_st hS ?_ | refine g_build stp_list own_st hS ?_ | refine g_make stp_list own_st hS ?_); clear hS; intro b w hS; refine put_in ?_) | ((first | refine g_store1 stp_list own_st hS ?_ | refine g_storeR stp_list own_st hS ?_); clear hS; intro w hS; refine put_in ?_)) | ((fail_if_success (with_reducible refine cons_list ?_)); first | go_step | go_step3 | rw [Exit.noGoto_normal] | rw [Exit.noGoto_ret] | rw [Exit.noGoto_exit]))
  rw [rounds_succ]
  repeat' (first | ((with_reducible refine cons_list ?_); first | ((first | refine g_skip stp_list ?_ | refine g_move stp_list ?_ | refine g_assign stp_list ?_ | refine g_load1 stp_list own_st hS ?_ | refine g_load1F stp_list (by first | exact ((hS).far hbb).1) ?_ | refine g_loadR stp_list own_st hS ?_ | refine g_loadRF stp_list (by first | exact ((hS).far hbb).1) ?_ | refine g_indexAddr stp_list ?_ | refine g_indexAddrA stp_list ?_ | refine g_len stp_list ?_ | refine g_cap stp_list ?_ | refine g_extract stp_list ?_ | refine g_add stp_list ?_ | refine g_sub stp_list ?_ | refine g_mul stp_list ?_ | refine g_quo stp_list ?_ | refine g_rem stp_list ?_ | refine g_cmp_t stp_list ?_ | refine g_cmp_f stp_list ?_ | refine g_cmp stp_list (fun hc => ?_) (fun hc => ?_) | refine g_neqNil stp_list ?_ | refine g_neqNil0 stp_list ?_ | refine g_eqlNil stp_list ?_ | refine g_eqlNil0 stp_list ?_ | refine g_fieldAddr stp_list ?_ | refine g_field1 stp_list ?_ | refine g_fieldR stp_list ?_ | refine g_eqlSlNil stp_list ?_ | refine g_neqSlNil stp_list ?_ | refine g_makeInterface stp_list ?_ | refine g_makeFunc stp_list ?_ | refine g_conv stp_list ?_ | refine g_pick stp_list ?_ | refine g_not stp_list ?_ | refine g_slice stp_list ?_ | refine g_sliceA stp_list ?_ | refine g_sliceNil stp_list ?_) <;> refine put_in ?_) | ((first | refine g_alloc stp_list own_st hS ?_ | refine g_box stp_list own_st hS ?_ | refine g_build0 stp_list own_st hS ?_ | refine g_build stp_list own_st hS ?_ | refine g_make stp_list own_st hS ?_); clear hS; intro b w hS; refine put_in ?_) | ((first | refine g_store1 stp_list own_st hS ?_ | refine g_storeR stp_list own_st hS ?_); clear hS; intro w hS; refine put_in ?_)) | ((fail_if_success (with_reducible refine cons_list ?_)); first | go_step | go_step3 | rw [Exit.noGoto_normal] | rw [Exit.noGoto_ret] | rw [Exit.noGoto_exit]))
  refine s_call stp_list (by rfl) (by rfl) (by rfl) (by rfl) (by rfl) (by infer_instance) (grow_none (l1.length + l2.length) (by omega) hm _) ?_
  rintro e w' ⟨g, c, rfl, hg1, hg2, hg, hgb, hgB⟩
  refine ⟨_, rfl, ?_⟩
  refine put_in ?_
  replace hS := own_st.new hS hgB hg hgb
  repeat' (first | ((with_reducible refine cons_list ?_); first | ((first | refine g_skip stp_list ?_ | refine g_move stp_list ?_ | refine g_assign stp_list ?_ | refine g_load1 stp_list own_st hS ?_ | refine g_load1F stp_list (by first | exact ((hS).far hbb).1) ?_ | refine g_loadR stp_list own_st hS ?_ | refine g_loadRF stp_list (by first | exact ((hS).far hbb).1) ?_ | refine g_indexAddr stp_list ?_ | refine g_indexAddrA stp_list ?_ | refine g_len stp_list ?_ | refine g_cap stp_list ?_ | refine g_extract stp_list ?_ | refine g_add stp_list ?_ | refine g_sub stp_list ?_ | refine g_mul stp_list ?_ | refine g_quo stp_list ?_ | refine g_rem stp_list ?_ | refine g_cmp_t stp_list ?_ | refine g_cmp_f stp_list ?_ | refine g_cmp stp_list (fun hc => ?_) (fun hc => ?_) | refine g_neqNil stp_list ?_ | refine g_neqNil0 stp_list ?_ | refine g_eqlNil stp_list ?_ | refine g_eqlNil0 stp_list ?_ | refine g_fieldAddr stp_list ?_ | refine g_field1 stp_list ?_ | refine g_fieldR stp_list ?_ | refine g_eqlSlNil stp_list ?_ | refine g_neqSlNil stp_list ?_ | refine g_makeInterface stp_list ?_ | refine g_makeFunc stp_list ?_ | refine g_conv stp_list ?_ | refine g_pick stp_list ?_ | refine g_not stp_list ?_ | refine g_slice stp_list ?_ | refine g_sliceA stp_list ?_ | refine g_sliceNil stp_list ?_) <;> refine put_in ?_) | ((first | refine g_alloc stp_list own_st hS ?_ | refine g_box stp_list own_st hS ?_ | refine g_build0 stp_list own_st hS ?_ | refine g_build stp_list own_st hS ?_ | refine g_make stp_list own_st hS ?_); clear hS; intro b w hS; refine put_in ?_) | ((first | refine g_store1 stp_list own_st hS ?_ | refine g_storeR stp_list own_st hS ?_); clear hS; intro w hS; refine put_in ?_)) | ((fail_if_success (with_reducible refine cons_list ?_)); first | go_step | go_step3 | rw [Exit.noGoto_normal] | rw [Exit.noGoto_ret] | rw [Exit.noGoto_exit]))
  refine wp_loop_rounds 3 ?_
  rw [rounds_succ]
  repeat' (first | ((with_reducible refine cons_list ?_); first | ((first | refine g_skip stp_list ?_ | refine g_move stp_list ?_ | refine g_assign stp_list ?_ | refine g_load1 stp_list own_st hS ?_ | refine g_load1F stp_list (by first | exact ((hS).far hbb).1) ?_ | refine g_loadR stp_list own_st hS ?_ | refine g_loadRF stp_list (by first | exact ((hS).far hbb).1) ?_ | refine g_indexAddr stp_list ?_ | refine g_indexAddrA stp_list ?_ | refine g_len stp_list ?_ | refine g_cap stp_list ?_ | refine g_extract stp_list ?_ | refine g_add stp_list ?_ | refine g_sub stp_list ?_ | refine g_mul stp_list ?_ | refine g_quo stp_list ?_ | refine g_rem stp_list ?_ | refine g_cmp_t stp_list ?_ | refine g_cmp_f stp_list ?_ | refine g_cmp stp_list (fun hc => ?_) (fun hc => ?_) | refine g_neqNil stp_list ?_ | refine g_neqNil0 stp_list ?_ | refine g_eqlNil stp_list ?_ | refine g_eqlNil0 stp_list ?_ | refine g_fieldAddr stp_list ?_ | refine g_field1 stp_list ?_ | refine g_fieldR stp_list ?_ | refine g_eqlSlNil stp_list ?_ | refine g_neqSlNil stp_list ?_ | refine g_makeInterface stp_list ?_ | refine g_makeFunc stp_list ?_ | refine g_conv stp_list ?_ | refine g_pick stp_list ?_ | refine g_not stp_list ?_ | refine g_slice stp_list ?_ | refine g_sliceA stp_list ?_ | refine g_sliceNil stp_list ?_) <;> refine put_in ?_) | ((first | refine g_alloc stp_list own_st hS ?_ | refine g_box stp_list own_st hS ?_ | refine g_build0 stp_list own_st hS ?_ | refine g_build stp_list own_st hS ?_ | refine g_make stp_list own_st hS ?_); clear hS; intro b w hS; refine put_in ?_) | ((first | refine g_store1 stp_list own_st hS ?_ | refine g_storeR stp_list own_st hS ?_); clear hS; intro w hS; refine put_in ?_)) | ((fail_if_success (with_reducible refine cons_list ?_)); first | go_step | go_step3 | rw [Exit.noGoto_normal] | rw [Exit.noGoto_ret] | rw [Exit.noGoto_exit]))
  refine s_append stp_list own_st hS (by rfl) (by rfl) (by rfl) (by rfl) (by infer_instance) (by exact at_ 0 rfl) (olds := []) (spare := (zs c).map bv) (by rfl) (by rfl) (by omega) (by rw [List.length_map, zs_len, Nat.mul_one, Nat.sub_zero]) (hv1.below hS.below).srcs (by rw [List.length_map, Nat.mul_one]) (bv_one l1) (by unfold maxLen at hg2 ⊢; omega) (by (try conv => lhs; simp only [Int.toNat_natCast, Int.toNat_zero, Int.toNat_one, Int.reduceToNat, Int.toNat_natCast_add_one, Int.ofNat_eq_natCast, Nat.mul_one, Nat.one_mul, Nat.zero_add, Nat.add_zero, Nat.sub_zero, Nat.zero_mul, Nat.reduceAdd, Nat.reduceMul, Nat.reduceSub]); first | done | rfl) ?_
  clear hS
  intro b1 d1 sp1 w1 h1 h2 h3 hS
  refine put_in ?_
  repeat' (first | ((with_reducible refine cons_list ?_); first | ((first | refine g_skip stp_list ?_ | refine g_move stp_list ?_ | refine g_assign stp_list ?_ | refine g_load1 stp_list own_st hS ?_ | refine g_load1F stp_list (by first | exact ((hS).far hbb).1) ?_ | refine g_loadR stp_list own_st hS ?_ | refine g_loadRF stp_list (by first | exact ((hS).far hbb).1) ?_ | refine g_indexAddr stp_list ?_ | refine g_indexAddrA stp_list ?_ | refine g_len stp_list ?_ | refine g_cap stp_list ?_ | refine g_extract stp_list ?_ | refine g_add stp_list ?_ | refine g_sub stp_list ?_ | refine g_mul stp_list ?_ | refine g_quo stp_list ?_ | refine g_rem stp_list ?_ | refine g_cmp_t stp_list ?_ | refine g_cmp_f stp_list ?_ | refine g_cmp stp_list (fun hc => ?_) (fun hc => ?_) | refine g_neqNil stp_list ?_ | refine g_neqNil0 stp_list ?_ | refine g_eqlNil stp_list ?_ | refine g_eqlNil0 stp_list ?_ | refine g_fieldAddr stp_list ?_ | refine g_field1 stp_list ?_ | refine g_fieldR stp_list ?_ | refine g_eqlSlNil stp_list ?_ | refine g_neqSlNil stp_list ?_ | refine g_makeInterface stp_list ?_ | refine g_makeFunc stp_list ?_ | refine g_conv stp_list ?_ | refine g_pick stp_list ?_ | refine g_not stp_list ?_ | refine g_slice stp_list ?_ | refine g_sliceA stp_list ?_ | refine g_sliceNil stp_list ?_) <;> refine put_in ?_) | ((first | refine g_alloc stp_list own_st hS ?_ | refine g_box stp_list own_st hS ?_ | refine g_build0 stp_list own_st hS ?_ | refine g_build stp_list own_st hS ?_ | refine g_make stp_list own_st hS ?_); clear hS; intro b w hS; refine put_in ?_) | ((first | refine g_store1 stp_list own_st hS ?_ | refine g_storeR stp_list own_st hS ?_); clear hS; intro w hS; refine put_in ?_)) | ((fail_if_success (with_reducible refine cons_list ?_)); first | go_step | go_step3 | rw [Exit.noGoto_normal] | rw [Exit.noGoto_ret] | rw [Exit.noGoto_exit]))
  rw [rounds_succ]
  repeat' (first | ((with_reducible refine cons_list ?_); first | ((first | refine g_skip stp_list ?_ | refine g_move stp_list ?_ | refine g_assign stp_list ?_ | refine g_load1 stp_list own_st hS ?_ | refine g_load1F stp_list (by first | exact ((hS).far hbb).1) ?_ | refine g_loadR stp_list own_st hS ?_ | refine g_loadRF stp_list (by first | exact ((hS).far hbb).1) ?_ | refine g_indexAddr stp_list ?_ | refine g_indexAddrA stp_list ?_ | refine g_len stp_list ?_ | refine g_cap stp_list ?_ | refine g_extract stp_list ?_ | refine g_add stp_list ?_ | refine g_sub stp_list ?_ | refine g_mul stp_list ?_ | refine g_quo stp_list ?_ | refine g_rem stp_list ?_ | refine g_cmp_t stp_list ?_ | refine g_cmp_f stp_list ?_ | refine g_cmp stp_list (fun hc => ?_) (fun hc => ?_) | refine g_neqNil stp_list ?_ | refine g_neqNil0 stp_list ?_ | refine g_eqlNil stp_list ?_ | refine g_eqlNil0 stp_list ?_ | refine g_fieldAddr stp_list ?_ | refine g_field1 stp_list ?_ | refine g_fieldR stp_list ?_ | refine g_eqlSlNil stp_list ?_ | refine g_neqSlNil stp_list ?_ | refine g_makeInterface stp_list ?_ | refine g_makeFunc stp_list ?_ | refine g_conv stp_list ?_ | refine g_pick stp_list ?_ | refine g_not stp_list ?_ | refine g_slice stp_list ?_ | refine g_sliceA stp_list ?_ | refine g_sliceNil stp_list ?_) <;> refine put_in ?_) | ((first | refine g_alloc stp_list own_st hS ?_ | refine g_box stp_list own_st hS ?_ | refine g_build0 stp_list own_st hS ?_ | refine g_build stp_list own_st hS ?_ | refine g_make stp_list own_st hS ?_); clear hS; intro b w hS; refine put_in ?_) | ((first | refine g_store1 stp_list own_st hS ?_ | refine g_storeR stp_list own_st hS ?_); clear hS; intro w hS; refine put_in ?_)) | ((fail_if_success (with_reducible refine cons_list ?_)); first | go_step | go_step3 | rw [Exit.noGoto_normal] | rw [Exit.noGoto_ret] | rw [Exit.noGoto_exit]))
  refine s_append stp_list own_st hS (by rfl) (by rfl) (by rfl) (by rfl) (by infer_instance) (by exact at_ 0 rfl) (olds := l1.map bv) (spare := sp1) (by rfl) (by rw [List.length_map]; omega) (by omega) (by rw [h3]) (hv2.below hS.below).srcs (by rw [List.length_map, Nat.mul_one]) (bv_one l2) (by unfold maxLen at h2 ⊢; omega) (by (try conv => lhs; simp only [Int.toNat_natCast, Int.toNat_zero, Int.toNat_one, Int.reduceToNat, Int.toNat_natCast_add_one, Int.ofNat_eq_natCast, Nat.mul_one, Nat.one_mul, Nat.zero_add, Nat.add_zero, Nat.sub_zero, Nat.zero_mul, Nat.reduceAdd, Nat.reduceMul, Nat.reduceSub]); first | done | rfl) ?_
  clear hS
  intro b2 d2 sp2 w2 k1 k2 k3 hS
  refine put_in ?_
  repeat' (first | ((with_reducible refine cons_list ?_); first | ((first | refine g_skip stp_list ?_ | refine g_move stp_list ?_ | refine g_assign stp_list ?_ | refine g_load1 stp_list own_st hS ?_ | refine g_load1F stp_list (by first | exact ((hS).far hbb).1) ?_ | refine g_loadR stp_list own_st hS ?_ | refine g_loadRF stp_list (by first | exact ((hS).far hbb).1) ?_ | refine g_indexAddr stp_list ?_ | refine g_indexAddrA stp_list ?_ | refine g_len stp_list ?_ | refine g_cap stp_list ?_ | refine g_extract stp_list ?_ | refine g_add stp_list ?_ | refine g_sub stp_list ?_ | refine g_mul stp_list ?_ | refine g_quo stp_list ?_ | refine g_rem stp_list ?_ | refine g_cmp_t stp_list ?_ | refine g_cmp_f stp_list ?_ | refine g_cmp stp_list (fun hc => ?_) (fun hc => ?_) | refine g_neqNil stp_list ?_ | refine g_neqNil0 stp_list ?_ | refine g_eqlNil stp_list ?_ | refine g_eqlNil0 stp_list ?_ | refine g_fieldAddr stp_list ?_ | refine g_field1 stp_list ?_ | refine g_fieldR stp_list ?_ | refine g_eqlSlNil stp_list ?_ | refine g_neqSlNil stp_list ?_ | refine g_makeInterface stp_list ?_ | refine g_makeFunc stp_list ?_ | refine g_conv stp_list ?_ | refine g_pick stp_list ?_ | refine g_not stp_list ?_ | refine g_slice stp_list ?_ | refine g_sliceA stp_list ?_ | refine g_sliceNil stp_list ?_) <;> refine put_in ?_) | ((first | refine g_alloc stp_list own_st hS ?_ | refine g_box stp_list own_st hS ?_ | refine g_build0 stp_list own_st hS ?_ | refine g_build stp_list own_st hS ?_ | refine g_make stp_list own_st hS ?_); clear hS; intro b w hS; refine put_in ?_) | ((first | refine g_store1 stp_list own_st hS ?_ | refine g_storeR stp_list own_st hS ?_); clear hS; intro w hS; refine put_in ?_)) | ((fail_if_success (with_reducible refine cons_list ?_)); first | go_step | go_step3 | rw [Exit.noGoto_normal] | rw [Exit.noGoto_ret] | rw [Exit.noGoto_exit]))
  rw [rounds_succ]
  repeat' (first | ((with_reducible refine cons_list ?_); first | ((first | refine g_skip stp_list ?_ | refine g_move stp_list ?_ | refine g_assign stp_list ?_ | refine g_load1 stp_list own_st hS ?_ | refine g_load1F stp_list (by first | exact ((hS).far hbb).1) ?_ | refine g_loadR stp_list own_st hS ?_ | refine g_loadRF stp_list (by first | exact ((hS).far hbb).1) ?_ | refine g_indexAddr stp_list ?_ | refine g_indexAddrA stp_list ?_ | refine g_len stp_list ?_ | refine g_cap stp_list ?_ | refine g_extract stp_list ?_ | refine g_add stp_list ?_ | refine g_sub stp_list ?_ | refine g_mul stp_list ?_ | refine g_quo stp_list ?_ | refine g_rem stp_list ?_ | refine g_cmp_t stp_list ?_ | refine g_cmp_f stp_list ?_ | refine g_cmp stp_list (fun hc => ?_) (fun hc => ?_) | refine g_neqNil stp_list ?_ | refine g_neqNil0 stp_list ?_ | refine g_eqlNil stp_list ?_ | refine g_eqlNil0 stp_list ?_ | refine g_fieldAddr stp_list ?_ | refine g_field1 stp_list ?_ | refine g_fieldR stp_list ?_ | refine g_eqlSlNil stp_list ?_ | refine g_neqSlNil stp_list ?_ | refine g_makeInterface stp_list ?_ | refine g_makeFunc stp_list ?_ | refine g_conv stp_list ?_ | refine g_pick stp_list ?_ | refine g_not stp_list ?_ | refine g_slice stp_list ?_ | refine g_sliceA stp_list ?_ | refine g_sliceNil stp_list ?_) <;> refine put_in ?_) | ((first | refine g_alloc stp_list own_st hS ?_ | refine g_box stp_list own_st hS ?_ | refine g_build0 stp_list own_st hS ?_ | refine g_build stp_list own_st hS ?_ | refine g_make stp_list own_st hS ?_); clear hS; intro b w hS; refine put_in ?_) | ((first | refine g_store1 stp_list own_st hS ?_ | refine g_storeR stp_list own_st hS ?_); clear hS; intro w hS; refine put_in ?_)) | ((fail_if_success (with_reducible refine cons_list ?_)); first | go_step | go_step3 | rw [Exit.noGoto_normal] | rw [Exit.noGoto_ret] | rw [Exit.noGoto_exit]))
  go_ret
  refine ⟨b2, d2, sp2, rfl, ⟨by omega, k2, by omega⟩, (hS.2.1 _ (List.mem_cons_self ..)).1, ?_, hS.below⟩
  rw [List.map_append]
  exact hS.blk 0 rfl
end Go.Proofs.Ytknkkcbihaojhaa

namespace Go.Proofs.Ytknkkcbihaojhaa
open Go.RowKit
theorem xor_digits (A B x y : Nat) (hx : x < 256) (hy : y < 256) : (x + 256 * A) ^^^ (y + 256 * B) = (x ^^^ y) + 256 * (A ^^^ B) := by
  have hxy : x ^^^ y < 2 ^ 8 := Nat.xor_lt_two_pow hx hy
  rw [Nat.add_comm x, Nat.add_comm y, Nat.add_comm (x ^^^ y), show (256 : Nat) = 2 ^ 8 from rfl]
  apply Nat.eq_of_testBit_eq
  intro j
  rw [Nat.testBit_xor, Nat.testBit_two_pow_mul_add A hx j, Nat.testBit_two_pow_mul_add B hy j, Nat.testBit_two_pow_mul_add _ hxy j]
  by_cases h : j < 8
  · simp only [h, if_true, Nat.testBit_xor]
  · simp only [h, if_false, Nat.testBit_xor]
theorem xorL_snoc (a b : List UInt8) (x y : UInt8) (h : a.length = b.length) : xorL (a ++ [x]) (b ++ [y]) = xorL a b ++ [x ^^^ y] := by
  unfold xorL
  rw [List.zipWith_append h]
  rfl
theorem beN_xor : ∀ (n : Nat) (a b : List UInt8), a.length = n → b.length = n → beN (xorL a b) = beN a ^^^ beN b
  | 0, a, b, ha, hb => by
    obtain rfl := List.eq_nil_of_length_eq_zero ha
    obtain rfl := List.eq_nil_of_length_eq_zero hb
    show beN [] = beN [] ^^^ beN []
    rw [beN_nil]; rfl
  | n + 1, a, b, ha, hb => by
    have ea : a = a.dropLast ++ [a.getLast (by intro h; subst h; simp at ha)] := (List.dropLast_concat_getLast _).symm
    have eb : b = b.dropLast ++ [b.getLast (by intro h; subst h; simp at hb)] := (List.dropLast_concat_getLast _).symm
    have la : a.dropLast.length = n := by simp [ha]
    have lb : b.dropLast.length = n := by simp [hb]
    rw [ea, eb]
    generalize a.dropLast = a' at *
    generalize b.dropLast = b' at *
    rw [xorL_snoc _ _ _ _ (by omega), beN_snoc, beN_snoc, beN_snoc, beN_xor n a' b' la lb, UInt8.toNat_xor]
    exact (xor_digits _ _ _ _ (UInt8.toNat_lt _) (UInt8.toNat_lt _)).symm
theorem r_xor64 {P : Program} {o : Oper} {a : Act} {w : World} {t t' : TypeId} {x y : Operand} {m n q : Nat} (hop : o.op = .binOp .xor t x y t') (hx : evO a x = some (.int .u64 (m : Int))) (hy : evO a y = some (.int .u64 (n : Int))) (hm : m < 2 ^ 64) (hn : n < 2 ^ 64) (hq : m ^^^ n = q) : (execOp a.eval o).run P w = .ok (.value (.int .u64 (q : Int))) w := by
  have hl : m ^^^ n < 2 ^ 64 := Nat.xor_lt_two_pow hm hn
  unfold execOp; rw [hop]; subst hq
  have hb : (BitVec.ofInt 64 (m : Int) ^^^ BitVec.ofInt 64 (n : Int)).toNat = m ^^^ n := by
    rw [BitVec.toNat_xor]
    have e : ∀ k : Nat, k < 2 ^ 64 → (BitVec.ofInt 64 (k : Int)).toNat = k := fun k hk => by
      rw [BitVec.ofInt_natCast, BitVec.toNat_ofNat, Nat.mod_eq_of_lt hk]
    rw [e m hm, e n hn]
  have hw : IntKind.u64.wrap ((m ^^^ n : Nat) : Int) = ((m ^^^ n : Nat) : Int) := IntWalk.u64_in _ (by omega)
  simp only [evO_eval hx, evO_eval hy, Sem.run_bind, eqGuard, binOp]
  simp [Op.intBits]
  have hb' : (BitVec.ofInt IntKind.u64.bits (m : Int) ^^^ BitVec.ofInt IntKind.u64.bits (n : Int)).toNat = m ^^^ n := hb
  have hm' : m % 2 ^ IntKind.u64.bits = m := Nat.mod_eq_of_lt hm
  have hn' : n % 2 ^ IntKind.u64.bits = n := Nat.mod_eq_of_lt hn
  rw [hm', hn']
  exact hw
theorem bv8 (x : UInt8) : (BitVec.ofInt 8 (x.toNat : Int)) = x.toBitVec := by
  rw [BitVec.ofInt_natCast]
  apply BitVec.eq_of_toNat_eq
  rw [BitVec.toNat_ofNat, Nat.mod_eq_of_lt (UInt8.toNat_lt x)]
  rfl
theorem r_xor8 {P : Program} {o : Oper} {a : Act} {w : World} {t t' : TypeId} {x y : Operand} {m n q : UInt8} (hop : o.op = .binOp .xor t x y t') (hx : evO a x = some (.int .u8 (m.toNat : Int))) (hy : evO a y = some (.int .u8 (n.toNat : Int))) (hq : m ^^^ n = q) : (execOp a.eval o).run P w = .ok (.value (.int .u8 (q.toNat : Int))) w := by
  unfold execOp; rw [hop]; subst hq
  have hb : (BitVec.ofInt IntKind.u8.bits (m.toNat : Int) ^^^ BitVec.ofInt IntKind.u8.bits (n.toNat : Int)).toNat = (m ^^^ n).toNat := by
    show (BitVec.ofInt 8 (m.toNat : Int) ^^^ BitVec.ofInt 8 (n.toNat : Int)).toNat = _
    rw [bv8, bv8]; rfl
  have hw : IntKind.u8.wrap (((m ^^^ n).toNat : Nat) : Int) = (((m ^^^ n).toNat : Nat) : Int) := IntWalk.u8_in _ (by have := UInt8.toNat_lt (m ^^^ n); omega)
  simp only [evO_eval hx, evO_eval hy, Sem.run_bind, eqGuard, binOp]
  simp only [Op.intBits, hb, hw]
  rfl
theorem r_or8 {P : Program} {o : Oper} {a : Act} {w : World} {t t' : TypeId} {x y : Operand} (m : UInt8) {n q : UInt8} (hop : o.op = .binOp .or t x y t') (hx : evO a x = some (.int .u8 (m.toNat : Int))) (hy : evO a y = some (.int .u8 (n.toNat : Int))) (hq : m ||| n = q) : (execOp a.eval o).run P w = .ok (.value (.int .u8 (q.toNat : Int))) w := by
  unfold execOp; rw [hop]; subst hq
  have hb : (BitVec.ofInt IntKind.u8.bits (m.toNat : Int) ||| BitVec.ofInt IntKind.u8.bits (n.toNat : Int)).toNat = (m ||| n).toNat := by
    show (BitVec.ofInt 8 (m.toNat : Int) ||| BitVec.ofInt 8 (n.toNat : Int)).toNat = _
    rw [bv8, bv8]; rfl
  have hw : IntKind.u8.wrap (((m ||| n).toNat : Nat) : Int) = (((m ||| n).toNat : Nat) : Int) := IntWalk.u8_in _ (by have := UInt8.toNat_lt (m ||| n); omega)
  simp only [evO_eval hx, evO_eval hy, Sem.run_bind, eqGuard, binOp]
  simp only [Op.intBits, hb, hw]
  rfl
theorem r_convU {P : Program} {o : Oper} {a : Act} {w : World} {s t : TypeId} {x : Operand} {k ks : IntKind} {n : Int} (hop : o.op = .convert s t x) (hx : evO a x = some (.int k n)) (hs : IntT P s ks) (ht : IntT P t .u64) : (execOp a.eval o).run P w = .ok (.value (.int .u64 ((n % 18446744073709551616).toNat : Nat))) w := by
  have e : IntKind.u64.wrap n = ((n % 18446744073709551616).toNat : Nat) := by rw [IntKind.wrap_u64]; omega
  unfold execOp; rw [hop]
  simp only [evO_eval hx, convert, Sem.run_bind, run_underlying hs.is, run_underlying ht.is, Result.andThen_ok, Conv.intToInt, e]
  rfl
theorem r_convW {P : Program} {o : Oper} {a : Act} {w : World} {s t : TypeId} {x : Operand} {k ks : IntKind} {n : Int} {u : Nat} (hop : o.op = .convert s t x) (hx : evO a x = some (.int k n)) (hs : IntT P s ks) (ht : IntT P t .u64) (hu : (n % 18446744073709551616).toNat = u) : (execOp a.eval o).run P w = .ok (.value (.int .u64 (u : Int))) w := by
  subst hu; exact r_convU hop hx hs ht
end Go.Proofs.Ytknkkcbihaojhaa

namespace Go.Proofs.Ytknkkcbihaojhaa
open Go.ChangeShapes Go.WideShapes Go.ChangeAt Go.RowKit
attribute [local irreducible] wpList wpListIn
set_option maxRecDepth 100000 in
set_option maxHeartbeats 1000000 in
theorem words_any (p : Option Addr) (n c : Nat) (h : n ≤ 9223372036854775807) (w : World) :
    Calls Try.prog 30 #[.slice p n c] w fun e w' => e = .returned (.int .i64 ((if n % 8 = 0 then n / 8 else 0 : Nat) : Int)) ∧ Below w.heap.size w w' := by
  have hS := St.start w
  go_enter Try.func30, Try.ntmps30
  repeat' (first | ((with_reducible refine cons_list ?_); first | ((first | refine g_skip stp_list ?_ | refine g_move stp_list ?_ | refine g_assign stp_list ?_ | refine g_load1 stp_list own_st hS ?_ | refine g_loadR stp_list own_st hS ?_ | refine g_indexAddr stp_list ?_ | refine g_indexAddrA stp_list ?_ | refine g_len stp_list ?_ | refine g_cap stp_list ?_ | refine g_extract stp_list ?_ | refine g_add stp_list ?_ | refine g_sub stp_list ?_ | refine g_mul stp_list ?_ | refine g_quo stp_list ?_ | refine g_rem stp_list ?_ | refine g_cmp_t stp_list ?_ | refine g_cmp_f stp_list ?_ | refine g_cmp stp_list (fun hc => ?_) (fun hc => ?_) | refine g_neqNil stp_list ?_ | refine g_neqNil0 stp_list ?_ | refine g_eqlNil stp_list ?_ | refine g_eqlNil0 stp_list ?_ | refine g_fieldAddr stp_list ?_ | refine g_field1 stp_list ?_ | refine g_fieldR stp_list ?_ | refine g_eqlSlNil stp_list ?_ | refine g_neqSlNil stp_list ?_ | refine g_makeInterface stp_list ?_ | refine g_makeFunc stp_list ?_ | refine g_conv stp_list ?_ | refine g_pick stp_list ?_ | refine g_not stp_list ?_ | refine g_slice stp_list ?_ | refine g_sliceA stp_list ?_ | refine g_sliceNil stp_list ?_) <;> refine put_in ?_) | ((first | refine g_alloc stp_list own_st hS ?_ | refine g_box stp_list own_st hS ?_ | refine g_build0 stp_list own_st hS ?_ | refine g_build stp_list own_st hS ?_ | refine g_make stp_list own_st hS ?_); clear hS; intro b w hS; refine put_in ?_) | ((first | refine g_store1 stp_list own_st hS ?_ | refine g_storeR stp_list own_st hS ?_); clear hS; intro w hS; refine put_in ?_)) | ((fail_if_success (with_reducible refine cons_list ?_)); first | go_step | go_step3 | rw [Exit.noGoto_normal] | rw [Exit.noGoto_ret] | rw [Exit.noGoto_exit]))
  · go_ret
    exact ⟨by rw [if_neg (by omega)]; rfl, hS.below⟩
  · go_ret
    exact ⟨by rw [if_pos (by omega)]; rfl, hS.below⟩
set_option maxRecDepth 100000 in
set_option maxHeartbeats 1000000 in
theorem steps_any (n : Int) (w : World) : Calls Try.prog 27 #[.int .i64 n] w fun e w' => e = .returned (.func (.func 47) #[] #[.pointer (some ⟨w.heap.size, 0, none⟩)]) ∧ w' = w.alloc (.cells #[.int .i64 n] 3) := by
  go_enter Try.func27, Try.ntmps27
  go_wp2
  go_ret
  exact ⟨rfl, rfl⟩
/-- How many steps there are. -/
def stepN (n : Int) : Nat := if 2 ≤ n ∧ n ≤ 64 then 6 * n.toNat else 0
theorem stepN_pos {n : Nat} (h2 : 2 ≤ n) (h64 : n ≤ 64) : stepN n = 6 * n := by unfold stepN; rw [if_pos (by omega)]; simp
theorem stepN_none {n : Int} (h : n < 2 ∨ 64 < n) : stepN n = 0 := by unfold stepN; rw [if_neg (by omega)]
set_option maxRecDepth 100000 in
set_option maxHeartbeats 2000000 in
theorem steps1_iter (n : Int) (g : Nat) (W0 : World) (hg : blk W0 g = some (.cells #[.int .i64 n] 3 (0, 0))) :
    IterAt Try.prog 47 #[.pointer (some ⟨g, 0, none⟩)] (fun k => #[.int .i64 ((k + 1 : Nat) : Int), .int .i64 (((k % n.toNat + 1 : Nat)) : Int)]) (some (stepN n)) [g] W0 := by
  intro l J Jx M W L0 hbW hR hM hJ0 hH hY
  have hgW : blk W g = some (.cells #[.int .i64 n] 3 (0, 0)) := (hbW.block g (blk_lt hg)).trans hg
  have hgn : g ∉ L0.map (·.1) := hR g (List.mem_singleton.2 rfl)
  refine (callsIn_wide (n := 1)).1 ?_
  refine callsIn_of_wp Try.func47 rfl trivial ?_ rfl
  simp only [Try.ntmps47, List.size_toArray, List.length_cons, List.length_nil, Nat.reduceAdd, Nat.reduceSub, Array.replicate_succ, Array.replicate_zero, List.push_toArray, List.append_toArray, List.nil_append, List.cons_append]
  by_cases h2 : n < 2
  · repeat' (first | ((with_reducible refine cons_in ?_); first | ((first | refine g_skip stp_wide ?_ | refine g_move stp_wide ?_ | refine g_assign stp_wide ?_ | refine g_load1 stp_wide own_in hS ?_ | refine g_load1F stp_wide (by first | exact hgW) ?_ | refine g_loadR stp_wide own_in hS ?_ | refine g_loadRF stp_wide (by first | exact hgW) ?_ | refine g_indexAddr stp_wide ?_ | refine g_indexAddrA stp_wide ?_ | refine g_len stp_wide ?_ | refine g_cap stp_wide ?_ | refine g_extract stp_wide ?_ | refine g_add stp_wide ?_ | refine g_sub stp_wide ?_ | refine g_mul stp_wide ?_ | refine g_quo stp_wide ?_ | refine g_rem stp_wide ?_ | refine g_cmp_t stp_wide ?_ | refine g_cmp_f stp_wide ?_ | refine g_cmp stp_wide (fun hc => ?_) (fun hc => ?_) | refine g_neqNil stp_wide ?_ | refine g_neqNil0 stp_wide ?_ | refine g_eqlNil stp_wide ?_ | refine g_eqlNil0 stp_wide ?_ | refine g_fieldAddr stp_wide ?_ | refine g_field1 stp_wide ?_ | refine g_fieldR stp_wide ?_ | refine g_eqlSlNil stp_wide ?_ | refine g_neqSlNil stp_wide ?_ | refine g_makeInterface stp_wide ?_ | refine g_makeFunc stp_wide ?_ | refine g_conv stp_wide ?_ | refine g_pick stp_wide ?_ | refine g_not stp_wide ?_ | refine g_slice stp_wide ?_ | refine g_sliceA stp_wide ?_ | refine g_sliceNil stp_wide ?_) <;> refine put_in ?_) | ((first | refine g_alloc stp_wide own_in hS ?_ | refine g_box stp_wide own_in hS ?_ | refine g_build0 stp_wide own_in hS ?_ | refine g_build stp_wide own_in hS ?_ | refine g_make stp_wide own_in hS ?_); clear hS; intro b w hS; refine put_in ?_) | ((first | refine g_store1 stp_wide own_in hS ?_ | refine g_storeR stp_wide own_in hS ?_); clear hS; intro w hS; refine put_in ?_)) | ((fail_if_success (with_reducible refine cons_in ?_)); first | gi_step | (with_reducible refine wpIn_scope_wide ?_) | (with_reducible refine wpIn_label ?_) | rw [Exit.noGoto_normal] | rw [Exit.noGoto_ret] | rw [Exit.noGoto_exit]))
    refine bodyPost_ret (results_none rfl _ _ _) rfl ?_
    exact ⟨⟨_, rfl⟩, L0, .refl hH, .inl ⟨0, by rw [stepN_none (.inl h2)], hJ0⟩⟩
  by_cases h3 : 64 < n
  · repeat' (first | ((with_reducible refine cons_in ?_); first | ((first | refine g_skip stp_wide ?_ | refine g_move stp_wide ?_ | refine g_assign stp_wide ?_ | refine g_load1 stp_wide own_in hS ?_ | refine g_load1F stp_wide (by first | exact hgW) ?_ | refine g_loadR stp_wide own_in hS ?_ | refine g_loadRF stp_wide (by first | exact hgW) ?_ | refine g_indexAddr stp_wide ?_ | refine g_indexAddrA stp_wide ?_ | refine g_len stp_wide ?_ | refine g_cap stp_wide ?_ | refine g_extract stp_wide ?_ | refine g_add stp_wide ?_ | refine g_sub stp_wide ?_ | refine g_mul stp_wide ?_ | refine g_quo stp_wide ?_ | refine g_rem stp_wide ?_ | refine g_cmp_t stp_wide ?_ | refine g_cmp_f stp_wide ?_ | refine g_cmp stp_wide (fun hc => ?_) (fun hc => ?_) | refine g_neqNil stp_wide ?_ | refine g_neqNil0 stp_wide ?_ | refine g_eqlNil stp_wide ?_ | refine g_eqlNil0 stp_wide ?_ | refine g_fieldAddr stp_wide ?_ | refine g_field1 stp_wide ?_ | refine g_fieldR stp_wide ?_ | refine g_eqlSlNil stp_wide ?_ | refine g_neqSlNil stp_wide ?_ | refine g_makeInterface stp_wide ?_ | refine g_makeFunc stp_wide ?_ | refine g_conv stp_wide ?_ | refine g_pick stp_wide ?_ | refine g_not stp_wide ?_ | refine g_slice stp_wide ?_ | refine g_sliceA stp_wide ?_ | refine g_sliceNil stp_wide ?_) <;> refine put_in ?_) | ((first | refine g_alloc stp_wide own_in hS ?_ | refine g_box stp_wide own_in hS ?_ | refine g_build0 stp_wide own_in hS ?_ | refine g_build stp_wide own_in hS ?_ | refine g_make stp_wide own_in hS ?_); clear hS; intro b w hS; refine put_in ?_) | ((first | refine g_store1 stp_wide own_in hS ?_ | refine g_storeR stp_wide own_in hS ?_); clear hS; intro w hS; refine put_in ?_)) | ((fail_if_success (with_reducible refine cons_in ?_)); first | gi_step | (with_reducible refine wpIn_scope_wide ?_) | (with_reducible refine wpIn_label ?_) | rw [Exit.noGoto_normal] | rw [Exit.noGoto_ret] | rw [Exit.noGoto_exit]))
    refine bodyPost_ret (results_none rfl _ _ _) rfl ?_
    exact ⟨⟨_, rfl⟩, L0, .refl hH, .inl ⟨0, by rw [stepN_none (.inr h3)], hJ0⟩⟩
  obtain ⟨m, rfl⟩ : ∃ m : Nat, n = m := ⟨n.toNat, by omega⟩
  have hN : stepN m = 6 * m := stepN_pos (by omega) (by omega)
  repeat' (first | ((with_reducible refine cons_in ?_); first | ((first | refine g_skip stp_wide ?_ | refine g_move stp_wide ?_ | refine g_assign stp_wide ?_ | refine g_load1 stp_wide own_in hS ?_ | refine g_load1F stp_wide (by first | exact hgW) ?_ | refine g_loadR stp_wide own_in hS ?_ | refine g_loadRF stp_wide (by first | exact hgW) ?_ | refine g_indexAddr stp_wide ?_ | refine g_indexAddrA stp_wide ?_ | refine g_len stp_wide ?_ | refine g_cap stp_wide ?_ | refine g_extract stp_wide ?_ | refine g_add stp_wide ?_ | refine g_sub stp_wide ?_ | refine g_mul stp_wide ?_ | refine g_quo stp_wide ?_ | refine g_rem stp_wide ?_ | refine g_cmp_t stp_wide ?_ | refine g_cmp_f stp_wide ?_ | refine g_cmp stp_wide (fun hc => ?_) (fun hc => ?_) | refine g_neqNil stp_wide ?_ | refine g_neqNil0 stp_wide ?_ | refine g_eqlNil stp_wide ?_ | refine g_eqlNil0 stp_wide ?_ | refine g_fieldAddr stp_wide ?_ | refine g_field1 stp_wide ?_ | refine g_fieldR stp_wide ?_ | refine g_eqlSlNil stp_wide ?_ | refine g_neqSlNil stp_wide ?_ | refine g_makeInterface stp_wide ?_ | refine g_makeFunc stp_wide ?_ | refine g_conv stp_wide ?_ | refine g_pick stp_wide ?_ | refine g_not stp_wide ?_ | refine g_slice stp_wide ?_ | refine g_sliceA stp_wide ?_ | refine g_sliceNil stp_wide ?_) <;> refine put_in ?_) | ((first | refine g_alloc stp_wide own_in hS ?_ | refine g_box stp_wide own_in hS ?_ | refine g_build0 stp_wide own_in hS ?_ | refine g_build stp_wide own_in hS ?_ | refine g_make stp_wide own_in hS ?_); clear hS; intro b w hS; refine put_in ?_) | ((first | refine g_store1 stp_wide own_in hS ?_ | refine g_storeR stp_wide own_in hS ?_); clear hS; intro w hS; refine put_in ?_)) | ((fail_if_success (with_reducible refine cons_in ?_)); first | gi_step | (with_reducible refine wpIn_scope_wide ?_) | (with_reducible refine wpIn_label ?_) | rw [Exit.noGoto_normal] | rw [Exit.noGoto_ret] | rw [Exit.noGoto_exit]))
  gi_loopg [3] (6 * m) (fun r u3 wr => ∃ k L, r + k = 6 * m ∧ u3 = .int .i64 ((k : Int) + 1) ∧ J k L ∧ Rd L0 W L wr)
  case atStart => exact ⟨0, L0, by omega, rfl, hJ0, .refl hH⟩
  case round =>
    obtain ⟨k, L, hk, rfl, hJ, hRd⟩ := hrel
    have hgr : blk wr g = some (.cells #[.int .i64 m] 3 (0, 0)) := (hRd.far hgW hgn).1
    by_cases hlt : k < 6 * m
    · have m1 : 0 ≤ (k : Int) % (m : Int) := Int.emod_nonneg _ (by omega)
      have m2 : (k : Int) % (m : Int) < (m : Int) := Int.emod_lt_of_pos _ (by omega)
      repeat' (first | ((with_reducible refine cons_in ?_); first | ((first | refine g_skip stp_wide ?_ | refine g_move stp_wide ?_ | refine g_assign stp_wide ?_ | refine g_load1 stp_wide own_in hS ?_ | refine g_load1F stp_wide (by first | exact hgr) ?_ | refine g_loadR stp_wide own_in hS ?_ | refine g_loadRF stp_wide (by first | exact hgr) ?_ | refine g_indexAddr stp_wide ?_ | refine g_indexAddrA stp_wide ?_ | refine g_len stp_wide ?_ | refine g_cap stp_wide ?_ | refine g_extract stp_wide ?_ | refine g_add stp_wide ?_ | refine g_sub stp_wide ?_ | refine g_mul stp_wide ?_ | refine g_quo stp_wide ?_ | refine g_rem stp_wide ?_ | refine g_cmp_t stp_wide ?_ | refine g_cmp_f stp_wide ?_ | refine g_cmp stp_wide (fun hc => ?_) (fun hc => ?_) | refine g_neqNil stp_wide ?_ | refine g_neqNil0 stp_wide ?_ | refine g_eqlNil stp_wide ?_ | refine g_eqlNil0 stp_wide ?_ | refine g_fieldAddr stp_wide ?_ | refine g_field1 stp_wide ?_ | refine g_fieldR stp_wide ?_ | refine g_eqlSlNil stp_wide ?_ | refine g_neqSlNil stp_wide ?_ | refine g_makeInterface stp_wide ?_ | refine g_makeFunc stp_wide ?_ | refine g_conv stp_wide ?_ | refine g_pick stp_wide ?_ | refine g_not stp_wide ?_ | refine g_slice stp_wide ?_ | refine g_sliceA stp_wide ?_ | refine g_sliceNil stp_wide ?_) <;> refine put_in ?_) | ((first | refine g_alloc stp_wide own_in hS ?_ | refine g_box stp_wide own_in hS ?_ | refine g_build0 stp_wide own_in hS ?_ | refine g_build stp_wide own_in hS ?_ | refine g_make stp_wide own_in hS ?_); clear hS; intro b w hS; refine put_in ?_) | ((first | refine g_store1 stp_wide own_in hS ?_ | refine g_storeR stp_wide own_in hS ?_); clear hS; intro w hS; refine put_in ?_)) | ((fail_if_success (with_reducible refine cons_in ?_)); first | gi_step | (with_reducible refine wpIn_scope_wide ?_) | (with_reducible refine wpIn_label ?_) | rw [Exit.noGoto_normal] | rw [Exit.noGoto_ret] | rw [Exit.noGoto_exit]))
      (refine s_yield (by rfl) (by rfl) (by rfl) (by rfl) (by rfl) (by simpa using hY k L wr hJ hRd (fun n h => by cases h; omega)) ?_)
      rintro e W3 ⟨L2, hRd2, (⟨rfl, hJ2⟩ | ⟨rfl, hx⟩)⟩
      · refine ⟨_, rfl, ?_⟩
        refine put_in ?_
        repeat' (first | ((with_reducible refine cons_in ?_); first | ((first | refine g_skip stp_wide ?_ | refine g_move stp_wide ?_ | refine g_assign stp_wide ?_ | refine g_load1 stp_wide own_in hS ?_ | refine g_load1F stp_wide (by first | exact hgr) ?_ | refine g_loadR stp_wide own_in hS ?_ | refine g_loadRF stp_wide (by first | exact hgr) ?_ | refine g_indexAddr stp_wide ?_ | refine g_indexAddrA stp_wide ?_ | refine g_len stp_wide ?_ | refine g_cap stp_wide ?_ | refine g_extract stp_wide ?_ | refine g_add stp_wide ?_ | refine g_sub stp_wide ?_ | refine g_mul stp_wide ?_ | refine g_quo stp_wide ?_ | refine g_rem stp_wide ?_ | refine g_cmp_t stp_wide ?_ | refine g_cmp_f stp_wide ?_ | refine g_cmp stp_wide (fun hc => ?_) (fun hc => ?_) | refine g_neqNil stp_wide ?_ | refine g_neqNil0 stp_wide ?_ | refine g_eqlNil stp_wide ?_ | refine g_eqlNil0 stp_wide ?_ | refine g_fieldAddr stp_wide ?_ | refine g_field1 stp_wide ?_ | refine g_fieldR stp_wide ?_ | refine g_eqlSlNil stp_wide ?_ | refine g_neqSlNil stp_wide ?_ | refine g_makeInterface stp_wide ?_ | refine g_makeFunc stp_wide ?_ | refine g_conv stp_wide ?_ | refine g_pick stp_wide ?_ | refine g_not stp_wide ?_ | refine g_slice stp_wide ?_ | refine g_sliceA stp_wide ?_ | refine g_sliceNil stp_wide ?_) <;> refine put_in ?_) | ((first | refine g_alloc stp_wide own_in hS ?_ | refine g_box stp_wide own_in hS ?_ | refine g_build0 stp_wide own_in hS ?_ | refine g_build stp_wide own_in hS ?_ | refine g_make stp_wide own_in hS ?_); clear hS; intro b w hS; refine put_in ?_) | ((first | refine g_store1 stp_wide own_in hS ?_ | refine g_storeR stp_wide own_in hS ?_); clear hS; intro w hS; refine put_in ?_)) | ((fail_if_success (with_reducible refine cons_in ?_)); first | gi_step | (with_reducible refine wpIn_scope_wide ?_) | (with_reducible refine wpIn_label ?_) | rw [Exit.noGoto_normal] | rw [Exit.noGoto_ret] | rw [Exit.noGoto_exit]))
        gi_roundg (gk - 1)
        case rel => exact ⟨k + 1, L2, by omega, by push_cast; rfl, hJ2, hRd.trans hRd2⟩
        case measure => omega
      · refine ⟨_, rfl, ?_⟩
        refine put_in ?_
        repeat' (first | ((with_reducible refine cons_in ?_); first | ((first | refine g_skip stp_wide ?_ | refine g_move stp_wide ?_ | refine g_assign stp_wide ?_ | refine g_load1 stp_wide own_in hS ?_ | refine g_load1F stp_wide (by first | exact hgr) ?_ | refine g_loadR stp_wide own_in hS ?_ | refine g_loadRF stp_wide (by first | exact hgr) ?_ | refine g_indexAddr stp_wide ?_ | refine g_indexAddrA stp_wide ?_ | refine g_len stp_wide ?_ | refine g_cap stp_wide ?_ | refine g_extract stp_wide ?_ | refine g_add stp_wide ?_ | refine g_sub stp_wide ?_ | refine g_mul stp_wide ?_ | refine g_quo stp_wide ?_ | refine g_rem stp_wide ?_ | refine g_cmp_t stp_wide ?_ | refine g_cmp_f stp_wide ?_ | refine g_cmp stp_wide (fun hc => ?_) (fun hc => ?_) | refine g_neqNil stp_wide ?_ | refine g_neqNil0 stp_wide ?_ | refine g_eqlNil stp_wide ?_ | refine g_eqlNil0 stp_wide ?_ | refine g_fieldAddr stp_wide ?_ | refine g_field1 stp_wide ?_ | refine g_fieldR stp_wide ?_ | refine g_eqlSlNil stp_wide ?_ | refine g_neqSlNil stp_wide ?_ | refine g_makeInterface stp_wide ?_ | refine g_makeFunc stp_wide ?_ | refine g_conv stp_wide ?_ | refine g_pick stp_wide ?_ | refine g_not stp_wide ?_ | refine g_slice stp_wide ?_ | refine g_sliceA stp_wide ?_ | refine g_sliceNil stp_wide ?_) <;> refine put_in ?_) | ((first | refine g_alloc stp_wide own_in hS ?_ | refine g_box stp_wide own_in hS ?_ | refine g_build0 stp_wide own_in hS ?_ | refine g_build stp_wide own_in hS ?_ | refine g_make stp_wide own_in hS ?_); clear hS; intro b w hS; refine put_in ?_) | ((first | refine g_store1 stp_wide own_in hS ?_ | refine g_storeR stp_wide own_in hS ?_); clear hS; intro w hS; refine put_in ?_)) | ((fail_if_success (with_reducible refine cons_in ?_)); first | gi_step | (with_reducible refine wpIn_scope_wide ?_) | (with_reducible refine wpIn_label ?_) | rw [Exit.noGoto_normal] | rw [Exit.noGoto_ret] | rw [Exit.noGoto_exit]))
        refine bodyPost_end (results_none rfl _ _ _) rfl ?_
        exact ⟨⟨_, rfl⟩, L2, hRd.trans hRd2, .inr hx⟩
    · obtain rfl : k = 6 * m := by omega
      repeat' (first | ((with_reducible refine cons_in ?_); first | ((first | refine g_skip stp_wide ?_ | refine g_move stp_wide ?_ | refine g_assign stp_wide ?_ | refine g_load1 stp_wide own_in hS ?_ | refine g_load1F stp_wide (by first | exact hgr) ?_ | refine g_loadR stp_wide own_in hS ?_ | refine g_loadRF stp_wide (by first | exact hgr) ?_ | refine g_indexAddr stp_wide ?_ | refine g_indexAddrA stp_wide ?_ | refine g_len stp_wide ?_ | refine g_cap stp_wide ?_ | refine g_extract stp_wide ?_ | refine g_add stp_wide ?_ | refine g_sub stp_wide ?_ | refine g_mul stp_wide ?_ | refine g_quo stp_wide ?_ | refine g_rem stp_wide ?_ | refine g_cmp_t stp_wide ?_ | refine g_cmp_f stp_wide ?_ | refine g_cmp stp_wide (fun hc => ?_) (fun hc => ?_) | refine g_neqNil stp_wide ?_ | refine g_neqNil0 stp_wide ?_ | refine g_eqlNil stp_wide ?_ | refine g_eqlNil0 stp_wide ?_ | refine g_fieldAddr stp_wide ?_ | refine g_field1 stp_wide ?_ | refine g_fieldR stp_wide ?_ | refine g_eqlSlNil stp_wide ?_ | refine g_neqSlNil stp_wide ?_ | refine g_makeInterface stp_wide ?_ | refine g_makeFunc stp_wide ?_ | refine g_conv stp_wide ?_ | refine g_pick stp_wide ?_ | refine g_not stp_wide ?_ | refine g_slice stp_wide ?_ | refine g_sliceA stp_wide ?_ | refine g_sliceNil stp_wide ?_) <;> refine put_in ?_) | ((first | refine g_alloc stp_wide own_in hS ?_ | refine g_box stp_wide own_in hS ?_ | refine g_build0 stp_wide own_in hS ?_ | refine g_build stp_wide own_in hS ?_ | refine g_make stp_wide own_in hS ?_); clear hS; intro b w hS; refine put_in ?_) | ((first | refine g_store1 stp_wide own_in hS ?_ | refine g_storeR stp_wide own_in hS ?_); clear hS; intro w hS; refine put_in ?_)) | ((fail_if_success (with_reducible refine cons_in ?_)); first | gi_step | (with_reducible refine wpIn_scope_wide ?_) | (with_reducible refine wpIn_label ?_) | rw [Exit.noGoto_normal] | rw [Exit.noGoto_ret] | rw [Exit.noGoto_exit]))
      refine bodyPost_end (results_none rfl _ _ _) rfl ?_
      exact ⟨⟨_, rfl⟩, L, hRd, .inl ⟨6 * m, by rw [hN], hJ⟩⟩
end Go.Proofs.Ytknkkcbihaojhaa
