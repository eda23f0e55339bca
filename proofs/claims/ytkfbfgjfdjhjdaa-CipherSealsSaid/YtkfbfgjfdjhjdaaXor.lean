/-
  The program's Xor of two blocks. No condition.
-/
import Derived.Test.YtkfbfgjfdjhjdaaSums
import Derived.Test.YtkfbfgjfdjhjdaaTail
namespace Go.Proofs.Ytkfbfgjfdjhjdaa
open Go.ChangeShapes Go.WideShapes Go.ChangeAt Go.RowKit
set_option maxRecDepth 100000 in
set_option maxHeartbeats 1000000 in
theorem xor_any (a b : List UInt8) (ha : a.length = 16) (hb : b.length = 16) (w : World) :
    Calls Try.prog 61 #[.agg (bvs a), .agg (bvs b)] w fun e w' => e = .returned (.agg (bvs (xorL a b))) ∧ Below w.heap.size w w' := by
  have HA := hid ha; have HB := hid hb
  have hfin := hid (xorN_all a b (by omega) 16 ha)
  have s0 : csz (bvs b) = 16 := by rw [csz_bvs, hb]
  clear ha hb
  have z := zs16
  go_enter Try.func61, Try.ntmps61
  go_wp2
  go_loopw [5, 6, 8] (fun u5 u6 u8 wr => ∃ k n : Nat, k ≤ 16 ∧ u8 = .int .i64 k ∧ wr = (((w.alloc (.cells (bvs (xorN a b k)) 25)).alloc (.cells (bvs b) 25)).alloc (.cells (bvs (zs 16)) 25)).drewN n)
    (fun _ _ i _ => 16 - (intOf i).toNat)
  case atStart => exact ⟨0, 0, by omega, rfl, rfl⟩
  case round =>
    obtain ⟨k, n, hk, rfl, rfl⟩ := hrel
    by_cases hlt : k < 16
    · have hx := bvs_get (l := xorN a b k) (k := k) (by rw [xorN_len, HA.out]; omega)
      rw [xorN_get a b k k (Nat.le_refl k)] at hx
      have hy := bvs_get (l := b) (k := k) (by rw [HB.out]; omega)
      generalize hX : a.getD k 0 = x at hx
      generalize hY : b.getD k 0 = y at hy
      have HX := hid hX; have HY := hid hY; clear hX hY
      go_wp2
      go_roundw
      case rel => exact ⟨k + 1, _, by omega, by go_num, by rw [xor_u8, bvs_set, xorN_succ, HX.out, HY.out]⟩
      case measure => simp [intOf]; omega
    · obtain rfl : k = 16 := by omega
      have hs : csz (bvs (xorN a b 16)) = 16 := by rw [csz_bvs, xorN_len, HA.out]
      clear hk hlt
      go_wp2
      refine post_cell (n := 16) Try.results61 (by kernel_rfl) (.inl rfl) _ (bvs (xorN a b 16)) 25 (0, 0) rfl rfl (by simp [go_sem]) hs ⟨by rw [hfin.out], ?_⟩
      exact (by repeat (first | exact Below.refl _ _ | assumption | refine Below.alloc ?_ (by first | omega | (simp; done) | (simp; omega)) _ | refine Below.drew ?_ | refine Below.setCell ?_ (by first | omega | (simp; done) | (simp; omega)) _ | refine below_setRow' ?_ (by first | omega | (simp; done) | (simp; omega)) _ | refine below_drewN' ?_ _))
end Go.Proofs.Ytkfbfgjfdjhjdaa
