/-
  The law CipherSums, walked: the closures that add blocks and columns; and 'linear'. No condition.
-/
import Derived.Test.YtkfbfgjfdjhjdaaCipherMixW
import Derived.Test.YtkfbfgjfdjhjdaaRefShift
namespace Go.Proofs.Ytkfbfgjfdjhjdaa
open Go.ChangeShapes Go.WideShapes Go.ChangeAt Go.RowKit

/-- The sums, place by place: so many places are done. -/
def xorN (a b : List UInt8) : Nat → List UInt8
  | 0 => a
  | k + 1 => (xorN a b k).set k (a.getD k 0 ^^^ b.getD k 0)
theorem xorN_len (a b : List UInt8) (k : Nat) : (xorN a b k).length = a.length := by
  induction k with
  | zero => rfl
  | succ k ih => simp [xorN, ih]
theorem xorN_succ (a b : List UInt8) (k : Nat) : xorN a b (k + 1) = (xorN a b k).set k (a.getD k 0 ^^^ b.getD k 0) := rfl
theorem xorN_get (a b : List UInt8) (k : Nat) : ∀ j, k ≤ j → (xorN a b k).getD j 0 = a.getD j 0 := by
  induction k with
  | zero => intros; rfl
  | succ k ih =>
    intro j hj
    rw [xorN_succ]
    have := ih j (by omega)
    simp only [List.getD_eq_getElem?_getD] at this ⊢
    rw [List.getElem?_set_ne (by omega)]
    exact this
theorem xorN_is (a b : List UInt8) (h : a.length = b.length) : ∀ k, k ≤ a.length → xorN a b k = xorL (a.take k) (b.take k) ++ a.drop k := by
  intro k
  induction k with
  | zero => intro _; simp [xorN, xorL]
  | succ k ih =>
    intro hk
    have hka : k < a.length := by omega
    have hkb : k < b.length := by omega
    have hl : (xorL (a.take k) (b.take k)).length = k := by simp [xorL]; omega
    rw [xorN_succ, ih (by omega), List.set_append_right _ _ (by omega), hl, Nat.sub_self, List.drop_eq_getElem_cons hka, List.set_cons_zero]
    have e1 : a.take (k + 1) = a.take k ++ [a[k]] := by rw [List.take_succ_eq_append_getElem hka]
    have e2 : b.take (k + 1) = b.take k ++ [b[k]] := by rw [List.take_succ_eq_append_getElem hkb]
    rw [e1, e2]
    unfold xorL
    rw [List.zipWith_append (by simp; omega)]
    simp [hka, hkb]
theorem xorN_all (a b : List UInt8) (h : a.length = b.length) (n : Nat) (hn : a.length = n) : xorN a b n = xorL a b := by
  rw [xorN_is a b h n (by omega), List.take_of_length_le (by omega), List.take_of_length_le (by omega), List.drop_of_length_le (by omega), List.append_nil]
theorem xorL_len (a b : List UInt8) (n : Nat) (ha : a.length = n) (hb : b.length = n) : (xorL a b).length = n := by simp [xorL, ha, hb]

set_option maxRecDepth 100000 in
set_option maxHeartbeats 1000000 in
theorem sum16_any (a b : List UInt8) (ha : a.length = 16) (hb : b.length = 16) (w : World) :
    Calls Try.prog 58 #[.agg (bvs a), .agg (bvs b)] w fun e w' => e = .returned (.agg (bvs (xorL a b))) ∧ Below w.heap.size w w' := by
  have HA := hid ha; have HB := hid hb
  have hfin := hid (xorN_all a b (by omega) 16 ha)
  clear ha hb
  have z := zs16
  go_enter Try.func58, Try.ntmps58
  go_wp2
  go_loopw [5, 6] (fun u5 u6 wr => ∃ k n : Nat, k ≤ 16 ∧ u6 = .int .i64 k ∧ wr = (((w.alloc (.cells (bvs (xorN a b k)) 25)).alloc (.cells (bvs b) 25)).alloc (.cells (bvs (zs 16)) 25)).drewN n)
    (fun _ i _ => 16 - (intOf i).toNat)
  case atStart => exact ⟨0, 0, by omega, rfl, rfl⟩
  case round =>
    obtain ⟨k, n, hk, rfl, rfl⟩ := hrel
    by_cases hlt : k < 16
    · have hx := bvs_get (l := xorN a b k) (k := k) (by rw [xorN_len, HA.out]; omega)
      rw [xorN_get a b k k (Nat.le_refl k)] at hx
      have hy := bvs_get (l := b) (k := k) (by rw [HB.out]; omega)
      generalize hX : a.getD k 0 = x at hx
      generalize hY : b.getD k 0 = y at hy
      have HX := hid hX; have HY := hid hY; clear hX hY
      go_wp2
      go_region
      go_wp2
      go_roundw
      case rel => exact ⟨k + 1, _, by omega, by go_num, by rw [xor_u8, bvs_set, xorN_succ, HX.out, HY.out]⟩
      case measure => simp [intOf]; omega
    · obtain rfl : k = 16 := by omega
      have hs : csz (bvs (xorN a b 16)) = 16 := by rw [csz_bvs, xorN_len, HA.out]
      clear hk hlt
      go_wp2
      refine post_cell (n := 16) Try.results58 (by kernel_rfl) (.inl rfl) _ (bvs (xorN a b 16)) 25 (0, 0) rfl rfl (by simp [go_sem]) hs ⟨by rw [hfin.out], ?_⟩
      exact (by repeat (first | exact Below.refl _ _ | assumption | refine Below.alloc ?_ (by first | omega | (simp; done) | (simp; omega)) _ | refine Below.drew ?_ | refine Below.setCell ?_ (by first | omega | (simp; done) | (simp; omega)) _ | refine below_setRow' ?_ (by first | omega | (simp; done) | (simp; omega)) _ | refine below_drewN' ?_ _))

set_option maxRecDepth 100000 in
set_option maxHeartbeats 1000000 in
theorem sum4_any (a b : List UInt8) (ha : a.length = 4) (hb : b.length = 4) (w : World) :
    Calls Try.prog 59 #[.agg (bvs a), .agg (bvs b)] w fun e w' => e = .returned (.agg (bvs (xorL a b))) ∧ Below w.heap.size w w' := by
  have HA := hid ha; have HB := hid hb
  have hfin := hid (xorN_all a b (by omega) 4 ha)
  clear ha hb
  have z := zs4
  go_enter Try.func59, Try.ntmps59
  go_wp2
  go_loopw [5, 6] (fun u5 u6 wr => ∃ k n : Nat, k ≤ 4 ∧ u6 = .int .i64 k ∧ wr = (((w.alloc (.cells (bvs (xorN a b k)) 28)).alloc (.cells (bvs b) 28)).alloc (.cells (bvs (zs 4)) 28)).drewN n)
    (fun _ i _ => 4 - (intOf i).toNat)
  case atStart => exact ⟨0, 0, by omega, rfl, rfl⟩
  case round =>
    obtain ⟨k, n, hk, rfl, rfl⟩ := hrel
    by_cases hlt : k < 4
    · have hx := bvs_get (l := xorN a b k) (k := k) (by rw [xorN_len, HA.out]; omega)
      rw [xorN_get a b k k (Nat.le_refl k)] at hx
      have hy := bvs_get (l := b) (k := k) (by rw [HB.out]; omega)
      generalize hX : a.getD k 0 = x at hx
      generalize hY : b.getD k 0 = y at hy
      have HX := hid hX; have HY := hid hY; clear hX hY
      go_wp2
      go_region
      go_wp2
      go_roundw
      case rel => exact ⟨k + 1, _, by omega, by go_num, by rw [xor_u8, bvs_set, xorN_succ, HX.out, HY.out]⟩
      case measure => simp [intOf]; omega
    · obtain rfl : k = 4 := by omega
      have hs : csz (bvs (xorN a b 4)) = 4 := by rw [csz_bvs, xorN_len, HA.out]
      clear hk hlt
      go_wp2
      refine post_cell (n := 4) Try.results59 (by kernel_rfl) (.inl rfl) _ (bvs (xorN a b 4)) 28 (0, 0) rfl rfl (by simp [go_sem]) hs ⟨by rw [hfin.out], ?_⟩
      exact (by repeat (first | exact Below.refl _ _ | assumption | refine Below.alloc ?_ (by first | omega | (simp; done) | (simp; omega)) _ | refine Below.drew ?_ | refine Below.setCell ?_ (by first | omega | (simp; done) | (simp; omega)) _ | refine below_setRow' ?_ (by first | omega | (simp; done) | (simp; omega)) _ | refine below_drewN' ?_ _))

end Go.Proofs.Ytkfbfgjfdjhjdaa
