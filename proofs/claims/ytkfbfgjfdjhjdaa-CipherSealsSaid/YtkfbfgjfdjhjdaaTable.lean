/-
  What the document's Shift answers for whatever block (its tables of rows and columns). No condition.
-/
import Derived.Test.YtkfbfgjfdjhjdaaShift
namespace Go.Proofs.Ytkfbfgjfdjhjdaa
open Go.ChangeShapes Go.WideShapes Go.ChangeAt Go.RowKit


set_option maxRecDepth 100000 in
set_option maxHeartbeats 400000 in
theorem table_any (l : List UInt8) (hl : l.length = 16) (w : World) :
    Calls Try.prog 48 #[.agg (bvs l)] w fun e w' => e = .returned (.agg (bvs (tabPart l 16))) ∧ Below w.heap.size w w' := by
  have H := hid hl; clear hl
  have z16 := zs16
  go_enter Try.func48, Try.ntmps48
  go_wp2
  go_loopw [4] (fun u4 wr => ∃ k n : Nat, k ≤ 16 ∧ u4 = .int .i64 k ∧ wr = (((w.alloc (.cells (bvs l) 25)).alloc (.cells (bvs (zs 16)) 63)).alloc (.cells (bvs (tabPart l k)) 63)).drewN n)
    (fun i _ => 16 - (intOf i).toNat)
  case atStart => exact ⟨0, 0, by omega, rfl, by rw [tabPart_zero]; rfl⟩
  case round =>
    obtain ⟨k, n, hk, rfl, rfl⟩ := hrel
    by_cases hlt : k < 16
    · have hx := bvs_get (l := l) (k := k) (by rw [H.out]; omega)
      have hy := bvs_get (l := tabPart l k) (k := k % 4 * 4 + k / 4) (by rw [tabPart_len]; omega)
      generalize hX : l.getD k 0 = x at hx
      generalize (tabPart l k).getD (k % 4 * 4 + k / 4) 0 = y at hy
      have HX := hid hX; clear hX
      go_wp2
      go_region
      go_wp2
      go_roundw
      case rel => exact ⟨k + 1, _, by omega, by go_num, by rw [bvs_set, tabPart_succ, HX.out]⟩
      case measure => simp [intOf]; omega
    · obtain rfl : k = 16 := by omega
      have hs : csz (bvs (tabPart l 16)) = 16 := by rw [csz_bvs, tabPart_len]
      clear hk hlt
      go_wp2
      refine post_cell (n := 16) Try.results48 (by kernel_rfl) (.inl rfl) _ (bvs (tabPart l 16)) 63 (0, 0) rfl rfl (by simp [go_sem]) (hs) ⟨rfl, ?_⟩
      exact (by repeat (first | exact Below.refl _ _ | assumption | refine Below.alloc ?_ (by first | omega | (simp; done) | (simp; omega)) _ | refine Below.drew ?_ | refine Below.setCell ?_ (by first | omega | (simp; done) | (simp; omega)) _ | refine below_setRow' ?_ (by first | omega | (simp; done) | (simp; omega)) _ | refine below_drewN' ?_ _))


set_option maxRecDepth 100000 in
set_option maxHeartbeats 400000 in
theorem block_any (l : List UInt8) (hl : l.length = 16) (w : World) :
    Calls Try.prog 49 #[.agg (bvs l)] w fun e w' => e = .returned (.agg (bvs (untPart l 16))) ∧ Below w.heap.size w w' := by
  have H := hid hl; clear hl
  have z16 := zs16
  go_enter Try.func49, Try.ntmps49
  go_wp2
  go_loopw [4] (fun u4 wr => ∃ k n : Nat, k ≤ 16 ∧ u4 = .int .i64 k ∧ wr = (((w.alloc (.cells (bvs l) 63)).alloc (.cells (bvs (zs 16)) 25)).alloc (.cells (bvs (untPart l k)) 25)).drewN n)
    (fun i _ => 16 - (intOf i).toNat)
  case atStart => exact ⟨0, 0, by omega, rfl, by rw [untPart_zero]; rfl⟩
  case round =>
    obtain ⟨k, n, hk, rfl, rfl⟩ := hrel
    by_cases hlt : k < 16
    · have hx := bvs_get (l := l) (k := k % 4 * 4 + k / 4) (by rw [H.out]; omega)
      have hy := bvs_get (l := untPart l k) (k := k) (by rw [untPart_len]; omega)
      generalize hX : l.getD (k % 4 * 4 + k / 4) 0 = x at hx
      generalize (untPart l k).getD k 0 = y at hy
      have HX := hid hX; clear hX
      go_wp2
      try go_region
      go_wp2
      go_roundw
      case rel => exact ⟨k + 1, _, by omega, by go_num, by rw [bvs_set, untPart_succ, HX.out]⟩
      case measure => simp [intOf]; omega
    · obtain rfl : k = 16 := by omega
      have hs : csz (bvs (untPart l 16)) = 16 := by rw [csz_bvs, untPart_len]
      clear hk hlt
      go_wp2
      refine post_cell (n := 16) Try.results49 (by kernel_rfl) (.inl rfl) _ (bvs (untPart l 16)) 25 (0, 0) rfl rfl (by simp [go_sem]) (hs) ⟨rfl, ?_⟩
      exact (by repeat (first | exact Below.refl _ _ | assumption | refine Below.alloc ?_ (by first | omega | (simp; done) | (simp; omega)) _ | refine Below.drew ?_ | refine Below.setCell ?_ (by first | omega | (simp; done) | (simp; omega)) _ | refine below_setRow' ?_ (by first | omega | (simp; done) | (simp; omega)) _ | refine below_drewN' ?_ _))
end Go.Proofs.Ytkfbfgjfdjhjdaa
