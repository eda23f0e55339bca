/-
  What the program's SubAll, SubWord and Rotate answer. No condition.
-/
import Derived.Test.YtkfbfgjfdjhjdaaSbox
import Derived.Test.YtkfbfgjfdjhjdaaPlain
namespace Go.Proofs.Ytkfbfgjfdjhjdaa
open Go.ChangeShapes Go.WideShapes Go.ChangeAt Go.RowKit
/-- A function done place by place: so many places are done. -/
def mapN (f : UInt8 → UInt8) (l : List UInt8) : Nat → List UInt8
  | 0 => l
  | k + 1 => (mapN f l k).set k (f (l.getD k 0))
theorem mapN_len (f : UInt8 → UInt8) (l : List UInt8) (k : Nat) : (mapN f l k).length = l.length := by
  induction k with
  | zero => rfl
  | succ k ih => simp [mapN, ih]
theorem mapN_zero (f : UInt8 → UInt8) (l : List UInt8) : mapN f l 0 = l := rfl
theorem mapN_succ (f : UInt8 → UInt8) (l : List UInt8) (k : Nat) : mapN f l (k + 1) = (mapN f l k).set k (f (l.getD k 0)) := rfl
theorem mapN_is (f : UInt8 → UInt8) (l : List UInt8) : ∀ k, k ≤ l.length → mapN f l k = (l.take k).map f ++ l.drop k := by
  intro k
  induction k with
  | zero => intro _; simp [mapN]
  | succ k ih =>
    intro hk
    have hkl : k < l.length := by omega
    have e : k - (List.map f (l.take k)).length = 0 := by simp; omega
    rw [mapN_succ, ih (by omega), List.set_append_right _ _ (by simp; omega), e, List.drop_eq_getElem_cons hkl, List.set_cons_zero, List.take_succ_eq_append_getElem hkl, List.map_append, List.append_assoc]
    simp [hkl]
theorem mapN_all (f : UInt8 → UInt8) (l : List UInt8) (n : Nat) (hn : l.length = n) : mapN f l n = l.map f := by
  rw [mapN_is f l n (by omega), List.take_of_length_le (by omega), List.drop_of_length_le (by omega), List.append_nil]
attribute [local irreducible] sboxL subB mapN

set_option maxRecDepth 100000 in
set_option maxHeartbeats 1000000 in
theorem subAll_any (l : List UInt8) (hl : l.length = 16) (w : World) : Calls Try.prog 35 #[.agg (bvs l)] w fun e w' => e = .returned (.agg (bvs (l.map subB))) ∧ Below w.heap.size w w' := by
  have H := hid hl
  have hfin := hid (mapN_all subB l 16 hl)
  have s0 : csz (bvs l) = 16 := by rw [csz_bvs, hl]
  clear hl
  have z := zs16
  go_enter Try.func35, Try.ntmps35
  go_wp2_with fail
  go_loopw [3, 4, 6] (fun u3 u4 u6 wr => ∃ k : Nat, k ≤ 16 ∧ u6 = .int .i64 k ∧ St w wr [(w.heap.size + 1, bvs (zs 16), 25), (w.heap.size, bvs (mapN subB l k), 25)])
    (fun _ _ i _ => 16 - (intOf i).toNat)
  case atStart => exact ⟨0, by omega, rfl, by rw [mapN_zero]; exact (St.alloc' (St.alloc' (St.start w) (by first | rfl | simp)) (by first | rfl | simp))⟩
  case round =>
    obtain ⟨k, hk, rfl, hS⟩ := hrel
    by_cases hlt : k < 16
    · have hx := bvs_get (l := l) (k := k) (by rw [H.out]; omega)
      have hy := bvs_get (l := mapN subB l k) (k := k) (by rw [mapN_len, H.out]; omega)
      generalize hX : l.getD k 0 = x at hx
      generalize (mapN subB l k).getD k 0 = y at hy
      have HX := hid hX; clear hX
      go_wp2_with fail
      refine (sub_any x _).mono ?_
      rintro e w1 ⟨rfl, hb⟩
      have hS2 := hS.call hb
      clear hS hb
      obtain ⟨kb1, kc1, kf1, kl1, kn1⟩ := hS2.at 1 rfl
      go_wp2
      go_roundw
      case rel =>
        refine ⟨k + 1, by omega, by go_num, ?_⟩
        have h3 := hS2.setCell 1 rfl k (.int .u8 ((subB x).toNat : Int))
        rw [bvs_set, show (mapN subB l k).set k (subB x) = mapN subB l (k + 1) by rw [mapN_succ, HX.out]] at h3
        exact h3
      case measure => simp [intOf]; omega
    · obtain rfl : k = 16 := by omega
      have hs : csz (bvs (mapN subB l 16)) = 16 := by rw [csz_bvs, mapN_len, H.out]
      clear hk hlt
      obtain ⟨kb0, kc0, kf0, kl0, kn0⟩ := hS.at 0 rfl; obtain ⟨kb1, kc1, kf1, kl1, kn1⟩ := hS.at 1 rfl
      go_wp2
      have h3 := hS.setRow 0 rfl (bvs (mapN subB l 16))
      exact post_cell (n := 16) Try.results35 (by kernel_rfl) (.inl rfl) _ _ _ _ rfl rfl (h3.blk 0 rfl) hs ⟨by rw [hfin.out], h3.below⟩

set_option maxRecDepth 100000 in
set_option maxHeartbeats 1000000 in
theorem subWord_any (l : List UInt8) (hl : l.length = 4) (w : World) : Calls Try.prog 30 #[.agg (bvs l)] w fun e w' => e = .returned (.agg (bvs (l.map subB))) ∧ Below w.heap.size w w' := by
  have H := hid hl
  have hfin := hid (mapN_all subB l 4 hl)
  have s0 : csz (bvs l) = 4 := by rw [csz_bvs, hl]
  clear hl
  have z := zs4
  go_enter Try.func30, Try.ntmps30
  go_wp2_with fail
  go_loopw [3, 4, 6] (fun u3 u4 u6 wr => ∃ k : Nat, k ≤ 4 ∧ u6 = .int .i64 k ∧ St w wr [(w.heap.size + 1, bvs (zs 4), 28), (w.heap.size, bvs (mapN subB l k), 28)])
    (fun _ _ i _ => 4 - (intOf i).toNat)
  case atStart => exact ⟨0, by omega, rfl, by rw [mapN_zero]; exact (St.alloc' (St.alloc' (St.start w) (by first | rfl | simp)) (by first | rfl | simp))⟩
  case round =>
    obtain ⟨k, hk, rfl, hS⟩ := hrel
    by_cases hlt : k < 4
    · have hx := bvs_get (l := l) (k := k) (by rw [H.out]; omega)
      have hy := bvs_get (l := mapN subB l k) (k := k) (by rw [mapN_len, H.out]; omega)
      generalize hX : l.getD k 0 = x at hx
      generalize (mapN subB l k).getD k 0 = y at hy
      have HX := hid hX; clear hX
      go_wp2_with fail
      refine (sub_any x _).mono ?_
      rintro e w1 ⟨rfl, hb⟩
      have hS2 := hS.call hb
      clear hS hb
      obtain ⟨kb1, kc1, kf1, kl1, kn1⟩ := hS2.at 1 rfl
      go_wp2
      go_roundw
      case rel =>
        refine ⟨k + 1, by omega, by go_num, ?_⟩
        have h3 := hS2.setCell 1 rfl k (.int .u8 ((subB x).toNat : Int))
        rw [bvs_set, show (mapN subB l k).set k (subB x) = mapN subB l (k + 1) by rw [mapN_succ, HX.out]] at h3
        exact h3
      case measure => simp [intOf]; omega
    · obtain rfl : k = 4 := by omega
      have hs : csz (bvs (mapN subB l 4)) = 4 := by rw [csz_bvs, mapN_len, H.out]
      clear hk hlt
      obtain ⟨kb0, kc0, kf0, kl0, kn0⟩ := hS.at 0 rfl; obtain ⟨kb1, kc1, kf1, kl1, kn1⟩ := hS.at 1 rfl
      go_wp2
      have h3 := hS.setRow 0 rfl (bvs (mapN subB l 4))
      exact post_cell (n := 4) Try.results30 (by kernel_rfl) (.inl rfl) _ _ _ _ rfl rfl (h3.blk 0 rfl) hs ⟨by rw [hfin.out], h3.below⟩

set_option maxRecDepth 100000 in
set_option maxHeartbeats 400000 in
theorem rotate_any (a b c d : UInt8) (w : World) : Calls Try.prog 31 #[.agg (bvs [a, b, c, d])] w fun e w' => e = .returned (.agg (bvs [b, c, d, a])) ∧ Below w.heap.size w w' := by
  have h0 : (bvs [a, b, c, d])[0]? = some (.int .u8 (a.toNat : Int)) := rfl
  have h1 : (bvs [a, b, c, d])[1]? = some (.int .u8 (b.toNat : Int)) := rfl
  have h2 : (bvs [a, b, c, d])[2]? = some (.int .u8 (c.toNat : Int)) := rfl
  have h3 : (bvs [a, b, c, d])[3]? = some (.int .u8 (d.toNat : Int)) := rfl
  go_enter Try.func31, Try.ntmps31
  go_wp2
  exact post_cell (n := 4) Try.results31 (by kernel_rfl) (.inl rfl) _ (bvs [b, c, d, a]) 28 (0, 0) rfl rfl (by simp [go_sem]; rfl) rfl ⟨rfl, (by repeat (first | exact Below.refl _ _ | assumption | refine Below.alloc ?_ (by first | omega | (simp; done) | (simp; omega)) _ | refine Below.drew ?_ | refine Below.setCell ?_ (by first | omega | (simp; done) | (simp; omega)) _ | refine below_setRow' ?_ (by first | omega | (simp; done) | (simp; omega)) _ | refine below_drewN' ?_ _))⟩
end Go.Proofs.Ytkfbfgjfdjhjdaa
