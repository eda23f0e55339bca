/-
  What the cipher's Shift and Unshift answer for whatever block. No condition.
-/
import Derived.Test.YtkfbfgjfdjhjdaaTypes
import Derived.Test.YtkfbfgjfdjhjdaaPlain
namespace Go.Proofs.Ytkfbfgjfdjhjdaa
open Go.ChangeShapes Go.WideShapes Go.ChangeAt Go.RowKit



set_option maxRecDepth 100000 in
set_option maxHeartbeats 400000 in
theorem shift_any (l : List UInt8) (hl : l.length = 16) (w : World) :
    Calls Try.prog 20 #[.agg (bvs l)] w fun e w' => e = .returned (.agg (bvs (shPart l 16))) ∧ Below w.heap.size w w' := by
  have H := hid hl; clear hl
  have z16 := zs16
  go_enter Try.func20, Try.ntmps20
  go_wp2
  go_loopw [4, 5] (fun u4 u5 wr => ∃ k : Nat, k ≤ 16 ∧ u5 = .int .i64 k ∧ wr = ((w.alloc (.cells (bvs l) 25)).alloc (.cells (bvs (zs 16)) 25)).alloc (.cells (bvs (shPart l k)) 25))
    (fun _ i _ => 16 - (intOf i).toNat)
  case atStart => exact ⟨0, by omega, rfl, by rw [shPart_zero]⟩
  case round =>
    obtain ⟨k, hk, rfl, rfl⟩ := hrel
    by_cases hlt : k < 16
    · have hx := bvs_get (l := l) (k := (k + 4 * (k % 4)) % 16) (by rw [H.out]; omega)
      have hy := bvs_get (l := shPart l k) (k := k) (by rw [shPart_len]; omega)
      generalize hX : l.getD ((k + 4 * (k % 4)) % 16) 0 = x at hx
      generalize (shPart l k).getD k 0 = y at hy
      have HX := hid hX; clear hX
      go_wp2
      go_roundw
      case rel => exact ⟨k + 1, by omega, by go_num, by rw [bvs_set, shPart_succ, HX.out]⟩
      case measure => simp [intOf]; omega
    · obtain rfl : k = 16 := by omega
      have hs : csz (bvs (shPart l 16)) = 16 := by rw [csz_bvs, shPart_len]
      clear hk hlt
      go_wp2
      refine post_cell (n := 16) Try.results20 (by kernel_rfl) (.inl rfl) _ (bvs (shPart l 16)) 25 (0, 0) rfl rfl (by simp [go_sem]) (hs) ⟨rfl, ?_⟩
      exact (by repeat (first | exact Below.refl _ _ | assumption | refine Below.alloc ?_ (by first | omega | (simp; done) | (simp; omega)) _ | refine Below.drew ?_ | refine Below.setCell ?_ (by first | omega | (simp; done) | (simp; omega)) _ | refine below_setRow' ?_ (by first | omega | (simp; done) | (simp; omega)) _ | refine below_drewN' ?_ _))

set_option maxRecDepth 100000 in
set_option maxHeartbeats 400000 in
theorem unshift_any (l : List UInt8) (hl : l.length = 16) (w : World) :
    Calls Try.prog 22 #[.agg (bvs l)] w fun e w' => e = .returned (.agg (bvs (unPart l 16))) ∧ Below w.heap.size w w' := by
  have H := hid hl
  have hs0 : csz (bvs l) = 16 := by rw [csz_bvs, hl]
  clear hl
  have z16 := zs16
  go_enter Try.func22, Try.ntmps22
  go_wp2
  go_loopw [4, 5, 7] (fun u4 u5 u7 wr => ∃ k : Nat, k ≤ 16 ∧ u7 = .int .i64 k ∧ wr = ((w.alloc (.cells (bvs l) 25)).alloc (.cells (bvs (zs 16)) 25)).alloc (.cells (bvs (unPart l k)) 25))
    (fun _ _ i _ => 16 - (intOf i).toNat)
  case atStart => exact ⟨0, by omega, rfl, by rw [unPart_zero]⟩
  case round =>
    obtain ⟨k, hk, rfl, rfl⟩ := hrel
    by_cases hlt : k < 16
    · have hx := bvs_get (l := l) (k := k) (by rw [H.out]; omega)
      have hy := bvs_get (l := unPart l k) (k := (k + 4 * (k % 4)) % 16) (by rw [unPart_len]; omega)
      generalize hX : l.getD k 0 = x at hx
      generalize (unPart l k).getD ((k + 4 * (k % 4)) % 16) 0 = y at hy
      have HX := hid hX; clear hX
      go_wp2
      go_roundw
      case rel => exact ⟨k + 1, by omega, by go_num, by rw [bvs_set, unPart_succ, HX.out]⟩
      case measure => simp [intOf]; omega
    · obtain rfl : k = 16 := by omega
      have hs : csz (bvs (unPart l 16)) = 16 := by rw [csz_bvs, unPart_len]
      clear hk hlt
      go_wp2
      refine post_cell (n := 16) Try.results22 (by kernel_rfl) (.inl rfl) _ (bvs (unPart l 16)) 25 (0, 0) rfl rfl (by simp [go_sem]) (hs) ⟨rfl, ?_⟩
      exact (by repeat (first | exact Below.refl _ _ | assumption | refine Below.alloc ?_ (by first | omega | (simp; done) | (simp; omega)) _ | refine Below.drew ?_ | refine Below.setCell ?_ (by first | omega | (simp; done) | (simp; omega)) _ | refine below_setRow' ?_ (by first | omega | (simp; done) | (simp; omega)) _ | refine below_drewN' ?_ _))
end Go.Proofs.Ytkfbfgjfdjhjdaa
