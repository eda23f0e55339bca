/-
  What the document's Shift answers for whatever block. No condition.
-/
import Derived.Test.YtkfbfgjfdjhjdaaTable
namespace Go.Proofs.Ytkfbfgjfdjhjdaa
open Go.ChangeShapes Go.WideShapes Go.ChangeAt Go.RowKit


set_option maxRecDepth 100000 in
set_option maxHeartbeats 400000 in
theorem refShift_any (l : List UInt8) (hl : l.length = 16) (w : World) :
    Calls Try.prog 21 #[.agg (bvs l)] w fun e w' => e = .returned (.agg (bvs (untPart (rsPart (tabPart l 16) 16) 16))) ∧ Below w.heap.size w w' := by
  have H := hid hl; clear hl
  have hT := hid (tabPart_len l 16)
  have hs0 : csz (bvs l) = 16 := by rw [csz_bvs, H.out]
  have hs1 : csz (bvs (tabPart l 16)) = 16 := by rw [csz_bvs, hT.out]
  have z16 := zs16
  go_enter Try.func21, Try.ntmps21
  go_wp2_with fail
  refine (table_any l H.out _).mono ?_
  rintro e w1 ⟨rfl, hb1⟩
  have hB1 : Below w.heap.size w w1 := chain (by repeat (first | exact Below.refl _ _ | assumption | refine Below.alloc ?_ (by first | omega | (simp; done) | (simp; omega)) _ | refine Below.drew ?_ | refine Below.setCell ?_ (by first | omega | (simp; done) | (simp; omega)) _ | refine below_setRow' ?_ (by first | omega | (simp; done) | (simp; omega)) _ | refine below_drewN' ?_ _)) (by first | omega | (simp; done) | (simp; omega)) hb1
  obtain ⟨k1, c1, f1, l1, n1⟩ := keep hb1 (w.heap.size + 1) (bvs (zs 16)) 25 (by simp [go_sem, *] <;> omega)
  clear hb1
  go_wp2_with fail
  go_loopw [5, 6] (fun u5 u6 wr => ∃ r n : Nat, r ≤ 4 ∧ u5 = .int .i64 r ∧ wr = ((w1.alloc (.cells (bvs (tabPart l 16)) 63)).alloc (.cells (bvs (rsPart (tabPart l 16) (4 * r))) 63)).drewN n)
    (fun i _ _ => 4 - (intOf i).toNat)
  case atStart => exact ⟨0, 0, by omega, rfl, by rw [rsPart_zero]; rfl⟩
  case round =>
    obtain ⟨r, n, hr, rfl, rfl⟩ := hrel
    by_cases hlt : r < 4
    · go_wp2_with fail
      go_loopw [6] (fun u6 wr => ∃ c n : Nat, c ≤ 4 ∧ u6 = .int .i64 c ∧ wr = ((w1.alloc (.cells (bvs (tabPart l 16)) 63)).alloc (.cells (bvs (rsPart (tabPart l 16) (4 * r + c))) 63)).drewN n)
        (fun i _ => 4 - (intOf i).toNat)
      case atStart => exact ⟨0, n, by omega, rfl, rfl⟩
      case round =>
        obtain ⟨c, m, hc, rfl, rfl⟩ := hrel
        by_cases hlt2 : c < 4
        · have hx := bvs_get (l := tabPart l 16) (k := r * 4 + (c + r) % 4) (by rw [hT.out]; omega)
          have hy := bvs_get (l := rsPart (tabPart l 16) (4 * r + c)) (k := r * 4 + c) (by rw [rsPart_len]; omega)
          generalize hX : (tabPart l 16).getD (r * 4 + (c + r) % 4) 0 = x at hx
          generalize (rsPart (tabPart l 16) (4 * r + c)).getD (r * 4 + c) 0 = y at hy
          have HX := hid hX; clear hX
          go_wp2
          go_region
          go_wp2
          go_roundw
          case rel => exact ⟨c + 1, _, by omega, by go_num, by rw [bvs_set, rsPart_succ (tabPart l 16) r c hlt2, HX.out]⟩
          case measure => simp [intOf]; omega
        · obtain rfl : c = 4 := by omega
          clear hc hlt2
          go_wp2
          go_roundw
          case rel => exact ⟨r + 1, m, by omega, by go_num, by rw [show 4 * (r + 1) = 4 * r + 4 by omega]⟩
          case measure => simp [intOf]; omega
    · obtain rfl : r = 4 := by omega
      have hl2 : (rsPart (tabPart l 16) 16).length = 16 := rsPart_len (tabPart l 16) 16
      have hs : csz (bvs (rsPart (tabPart l 16) 16)) = 16 := by rw [csz_bvs, hl2]
      have HL := hid hl2
      clear hr hlt hl2
      go_wp2_with fail
      refine (block_any (rsPart (tabPart l 16) 16) HL.out _).mono ?_
      rintro e w2 ⟨rfl, hb2⟩
      have hB2 : Below w.heap.size w w2 := chain (by repeat (first | exact Below.refl _ _ | assumption | refine Below.alloc ?_ (by first | omega | (simp; done) | (simp; omega)) _ | refine Below.drew ?_ | refine Below.setCell ?_ (by first | omega | (simp; done) | (simp; omega)) _ | refine below_setRow' ?_ (by first | omega | (simp; done) | (simp; omega)) _ | refine below_drewN' ?_ _)) (by first | omega | (simp; done) | (simp; omega)) hb2
      obtain ⟨k2, c2, f2, l2, n2⟩ := keep hb2 (w.heap.size + 1) (bvs (zs 16)) 25 (by simp [go_sem, *] <;> omega)
      have hs3 : csz (bvs (untPart (rsPart (tabPart l 16) 16) 16)) = 16 := by rw [csz_bvs, untPart_len]
      go_wp2
      refine post_cell (n := 16) Try.results21 (by kernel_rfl) (.inl rfl) _ _ _ _ rfl rfl (blk_setRow_same k2 _) hs3 ⟨rfl, ?_⟩
      exact (by repeat (first | exact Below.refl _ _ | assumption | refine Below.alloc ?_ (by first | omega | (simp; done) | (simp; omega)) _ | refine Below.drew ?_ | refine Below.setCell ?_ (by first | omega | (simp; done) | (simp; omega)) _ | refine below_setRow' ?_ (by first | omega | (simp; done) | (simp; omega)) _ | refine below_drewN' ?_ _))
end Go.Proofs.Ytkfbfgjfdjhjdaa
