/-
  The law CipherShift, walked: for every block of 16 bytes it answers true.
-/
import Derived.Test.YtkfbfgjfdjhjdaaRefShift
namespace Go.Proofs.Ytkfbfgjfdjhjdaa
open Go.ChangeShapes Go.WideShapes Go.ChangeAt Go.RowKit

def k5 : List UInt8 := [0, 0, 0, 0, 0, 1, 0, 0, 0, 0, 0, 0, 0, 0, 0, 0]
def k1 : List UInt8 := [0, 1, 0, 0, 0, 0, 0, 0, 0, 0, 0, 0, 0, 0, 0, 0]
theorem k5_lit : #[Value.int .u8 0, .int .u8 0, .int .u8 0, .int .u8 0, .int .u8 0, .int .u8 1, .int .u8 0, .int .u8 0, .int .u8 0, .int .u8 0, .int .u8 0, .int .u8 0, .int .u8 0, .int .u8 0, .int .u8 0, .int .u8 0] = bvs k5 := rfl
theorem k1_lit : #[Value.int .u8 0, .int .u8 1, .int .u8 0, .int .u8 0, .int .u8 0, .int .u8 0, .int .u8 0, .int .u8 0, .int .u8 0, .int .u8 0, .int .u8 0, .int .u8 0, .int .u8 0, .int .u8 0, .int .u8 0, .int .u8 0] = bvs k1 := rfl
attribute [irreducible] k5 k1

set_option maxRecDepth 100000 in
set_option maxHeartbeats 1000000 in
theorem cipherShift_any (l : List UInt8) (hl : l.length = 16) (w : World) :
    Calls Try.prog 4 #[.agg (bvs l)] w fun e w' => e = .returned (.bool true) ∧ Below w.heap.size w w' := by
  have q1 : (shPart k5 16 == k1) = true := by unfold k5 k1; rw [shift_is rfl]; rfl
  have q2 : (shPart l 16 == untPart (rsPart (tabPart l 16) 16) 16) = true := by rw [shift_law hl]; simp
  have q3 : (unPart (shPart l 16) 16 == l) = true := by rw [unshift_shift hl]; simp
  have q4 : (shPart (unPart l 16) 16 == l) = true := by rw [shift_unshift hl]; simp
  have s0 : csz (bvs l) = 16 := by rw [csz_bvs, hl]
  have s1 : csz (bvs (shPart l 16)) = 16 := by rw [csz_bvs, shPart_len]
  have s2 : csz (bvs (unPart l 16)) = 16 := by rw [csz_bvs, unPart_len]
  have s3 : csz (bvs (shPart k5 16)) = 16 := by rw [csz_bvs, shPart_len]
  have s4 : csz (bvs (unPart (shPart l 16) 16)) = 16 := by rw [csz_bvs, unPart_len]
  have s5 : csz (bvs (shPart (unPart l 16) 16)) = 16 := by rw [csz_bvs, shPart_len]
  have s6 : csz (bvs (untPart (rsPart (tabPart l 16) 16) 16)) = 16 := by rw [csz_bvs, untPart_len]
  have s7 : csz (bvs k1) = 16 := by unfold k1; rfl
  have H := hid hl; clear hl
  have e1 := k5_lit
  have e2 := k1_lit
  go_enter Try.func4, Try.ntmps4
  go_wp2_with fail
  refine (shift_any l H.out _).mono ?_
  rintro e w1 ⟨rfl, hb1⟩
  have hB1 : Below w.heap.size w w1 := chain (by repeat (first | exact Below.refl _ _ | assumption | refine Below.alloc ?_ (by first | omega | (simp; done) | (simp; omega)) _ | refine Below.drew ?_ | refine Below.setCell ?_ (by first | omega | (simp; done) | (simp; omega)) _ | refine below_setRow' ?_ (by first | omega | (simp; done) | (simp; omega)) _ | refine below_drewN' ?_ _)) (by first | omega | (simp; done) | (simp; omega)) hb1
  obtain ⟨k1, c1, f1, l1, n1⟩ := keep hb1 (w.heap.size) (bvs l) 25 (by simp [go_sem, *] <;> omega)
  clear hb1
  go_wp2_with fail
  have b1 : blk (w1.alloc (.cells (bvs (shPart l 16)) 25)) w.heap.size = some (.cells (bvs l) 25) := by simp [go_sem, *]
  have b2 : blk (w1.alloc (.cells (bvs (shPart l 16)) 25)) w1.heap.size = some (.cells (bvs (shPart l 16)) 25) := by simp [go_sem]
  have hB2 : Below w.heap.size w (w1.alloc (.cells (bvs (shPart l 16)) 25)) := (by repeat (first | exact Below.refl _ _ | assumption | refine Below.alloc ?_ (by first | omega | (simp; done) | (simp; omega)) _ | refine Below.drew ?_ | refine Below.setCell ?_ (by first | omega | (simp; done) | (simp; omega)) _ | refine below_setRow' ?_ (by first | omega | (simp; done) | (simp; omega)) _ | refine below_drewN' ?_ _))
  have hz2 : w.heap.size ≤ (w1.alloc (.cells (bvs (shPart l 16)) 25)).heap.size := hB2.size
  generalize w1.alloc (.cells (bvs (shPart l 16)) 25) = W at *
  refine region_cls (by kernel_rfl) (by kernel_rfl) ?_
  repeat (first | (refine BigFrame.wpQuiet_skip rfl ?_; simp only [Act.put, List.setIfInBounds_toArray, List.set_cons_zero, List.set_cons_succ]) | (refine BigFrame.wpQuiet_want rfl (fun K hK => ?_); apply Exists.intro; refine ⟨fun w' hw' => ?_, hK _ ?_⟩; (focus (obtain ⟨zb0, zc0, zf0, zl0⟩ := hw'.keep b1; obtain ⟨zb1, zc1, zf1, zl1⟩ := hw'.keep b2; go_simp; first | done | rfl | (first | (go_at_call 20; exact hw'.call (shift_any _ (by first | exact H.out | exact unPart_len _ _ | (unfold k5; rfl)) _)) | (go_at_call 22; exact hw'.call (unshift_any _ (by first | exact H.out | exact shPart_len _ _) _)) | (go_at_call 21; exact hw'.call (refShift_any _ H.out _))))); clear hK K; simp only [Act.put, List.setIfInBounds_toArray, List.set_cons_zero, List.set_cons_succ]))
  refine wpQuiet_nil ?_
  intro w2 hc
  go_wp2
  go_ret
  exact ⟨rfl, Go.Proofs.Ytkfbfgjfdjhjdaa.chain hB2 hz2 hc⟩
end Go.Proofs.Ytkfbfgjfdjhjdaa
