/-
  What the document's Mix answers for whatever column. No condition.
-/
import Derived.Test.YtkfbfgjfdjhjdaaRefMul
namespace Go.Proofs.Ytkfbfgjfdjhjdaa
open Go.ChangeShapes Go.WideShapes Go.ChangeAt Go.RowKit

theorem refmul2_any (a : UInt8) (w : World) : Calls Try.prog 51 #[.int .u8 a.toNat, .int .u8 2] w fun e w' => e = .returned (.int .u8 (mulB a 2).toNat) ∧ Below w.heap.size w w' := by
  rw [← refMul_2]; exact refmul_any a 2 w
theorem refmul3_any (a : UInt8) (w : World) : Calls Try.prog 51 #[.int .u8 a.toNat, .int .u8 3] w fun e w' => e = .returned (.int .u8 (mulB a 3).toNat) ∧ Below w.heap.size w w' := by
  rw [← refMul_3]; exact refmul_any a 3 w

def refMix (v : List UInt8) : List UInt8 :=
  [mulB (v.getD 0 0) 2 ^^^ mulB (v.getD 1 0) 3 ^^^ v.getD 2 0 ^^^ v.getD 3 0, v.getD 0 0 ^^^ mulB (v.getD 1 0) 2 ^^^ mulB (v.getD 2 0) 3 ^^^ v.getD 3 0,
   v.getD 0 0 ^^^ v.getD 1 0 ^^^ mulB (v.getD 2 0) 2 ^^^ mulB (v.getD 3 0) 3, mulB (v.getD 0 0) 3 ^^^ v.getD 1 0 ^^^ v.getD 2 0 ^^^ mulB (v.getD 3 0) 2]

set_option maxRecDepth 100000 in
set_option maxHeartbeats 2000000 in
theorem refMix_any (v : List UInt8) (hv : v.length = 4) (w : World) :
    Calls Try.prog 24 #[.agg (bvs v)] w fun e w' => e = .returned (.agg (bvs (refMix v))) ∧ Below w.heap.size w w' := by
  obtain ⟨x0, x1, x2, x3, rfl⟩ := len4 hv
  clear hv
  have s0 : csz (bvs [x0, x1, x2, x3]) = 4 := rfl
  have h0 : (bvs [x0, x1, x2, x3])[0]? = some (.int .u8 (x0.toNat : Int)) := rfl
  have h1 : (bvs [x0, x1, x2, x3])[1]? = some (.int .u8 (x1.toNat : Int)) := rfl
  have h2 : (bvs [x0, x1, x2, x3])[2]? = some (.int .u8 (x2.toNat : Int)) := rfl
  have h3 : (bvs [x0, x1, x2, x3])[3]? = some (.int .u8 (x3.toNat : Int)) := rfl
  go_enter Try.func24, Try.ntmps24
  go_wp2_with fail
  have hS : St w ((w.alloc (.cells (bvs [x0, x1, x2, x3]) 28)).alloc (.cells #[.int .u8 0, .int .u8 0, .int .u8 0, .int .u8 0] 28)) [(w.heap.size + 1, #[.int .u8 0, .int .u8 0, .int .u8 0, .int .u8 0], 28), (w.heap.size, bvs [x0, x1, x2, x3], 28)] := (St.alloc' (St.alloc' (St.start w) (by first | rfl | simp)) (by first | rfl | simp))
  generalize (w.alloc (.cells (bvs [x0, x1, x2, x3]) 28)).alloc (.cells #[.int .u8 0, .int .u8 0, .int .u8 0, .int .u8 0] 28) = W at *
  refine region_tail_lit (by kernel_rfl) (by kernel_rfl) ?_
  dsimp only [List.dropLast, List.getLast?, List.getLast, Option.getD]
  repeat (first | (refine BigFrame.wpQuiet_skip rfl ?_; simp only [Act.put, List.setIfInBounds_toArray, List.set_cons_zero, List.set_cons_succ]) | (refine BigFrame.wpQuiet_want rfl (fun K hK => ?_); apply Exists.intro; refine ⟨fun w' hw' => ?_, hK _ ?_⟩; (focus (have zS := hS.cls hw'; obtain ⟨zb0, zc0, zf0, zl0, zn0⟩ := zS.at 1 rfl; clear zS; go_simp; (try (go_bits; go_simp)); first | done | rfl | ((go_at_call 51; first | ((with_reducible refine (refmul2_any _ _).mono ?_); exact fun e w' ⟨he, hw⟩ => ⟨he, hw'.step hw⟩) | ((with_reducible refine (refmul3_any _ _).mono ?_); exact fun e w' ⟨he, hw⟩ => ⟨he, hw'.step hw⟩))))); clear hK K; simp only [Act.put, List.setIfInBounds_toArray, List.set_cons_zero, List.set_cons_succ]))
  refine wpQuiet_nil ?_
  intro w2 hc
  have hS2 := hS.cls hc
  clear hS hc
  obtain ⟨kb0, kc0, kf0, kl0, kn0⟩ := hS2.at 0 rfl
  go_wp2
  exact post_cell (n := 4) Try.results24 (by kernel_rfl) (.inl rfl) _ _ _ _ rfl rfl (blk_setRow_same (hS2.blk 0 rfl) _) rfl ⟨by simp only [xor_u8]; rfl, (hS2.setRow 0 rfl _).below⟩
end Go.Proofs.Ytkfbfgjfdjhjdaa
