/-
  A slice literal of blocks: laid in one step.
-/
import Derived.Test.YtkfbfgjfdjhjdaaTypes
import Derived.Test.YtkfbfgjfdjhjdaaPlain
import Derived.Great.BuildSlice
namespace Go.Proofs.Ytkfbfgjfdjhjdaa
open Go.ChangeShapes Go.WideShapes Go.ChangeAt Go.RowKit
def buildSliceR (t : TypeId) (n : Nat) (parts : Array (Nat × Value)) : Sem Value := if n = n then Instr.buildSlice t n parts else Instr.buildSlice t n parts
@[go_sem ↓] theorem buildSlice_keys (n : Nat) (parts : Array (Nat × Value)) : Instr.buildSlice 42 n parts = buildSliceR 42 n parts := by unfold buildSliceR; rw [if_pos rfl]
theorem info_key : ∃ i, Try.prog.info? 25 = some i ∧ i.zero = some (.agg (bvs (zs 16))) ∧ i.size = 16 := by
  have h : (Try.prog.info? 25).map (fun i => (i.zero, i.size)) = some (some (.agg (bvs (zs 16))), 16) := by rw [← zs16]; kernel_rfl
  cases hi : Try.prog.info? 25 with
  | none => rw [hi] at h; cases h
  | some i =>
    rw [hi] at h
    simp only [Option.map_some, Option.some.injEq, Prod.mk.injEq] at h
    exact ⟨i, rfl, h.1, h.2⟩
theorem fill1 (l : List UInt8) (h : l.length = 16) : Instr.fill (fun i => some (i * 16, 16)) ((Array.range (1 * 16)).map ((Value.agg (bvs (zs 16))).cells[· % (Value.agg (bvs (zs 16))).cells.size]!)) #[(0, Value.agg (bvs l))].toList = some (bvs l) := by
  obtain ⟨a0, a1, a2, a3, a4, a5, a6, a7, a8, a9, a10, a11, a12, a13, a14, a15, rfl⟩ := len16 h
  rw [← zs16]
  kernel_rfl
theorem fill2 (l m : List UInt8) (h : l.length = 16) (hm : m.length = 16) : Instr.fill (fun i => some (i * 16, 16)) ((Array.range (2 * 16)).map ((Value.agg (bvs (zs 16))).cells[· % (Value.agg (bvs (zs 16))).cells.size]!)) #[(0, Value.agg (bvs l)), (1, Value.agg (bvs m))].toList = some (bvs (l ++ m)) := by
  obtain ⟨a0, a1, a2, a3, a4, a5, a6, a7, a8, a9, a10, a11, a12, a13, a14, a15, rfl⟩ := len16 h
  obtain ⟨b0, b1, b2, b3, b4, b5, b6, b7, b8, b9, b10, b11, b12, b13, b14, b15, rfl⟩ := len16 hm
  rw [← zs16]
  kernel_rfl
@[go_sem] theorem run_keys1 (l : List UInt8) (h : csz (bvs l) = 16) (w : World) : (buildSliceR 42 1 #[(0, .agg (bvs l))]).run Try.prog w = .ok (.slice (some ⟨w.heap.size, 0, none⟩) 1 1) (w.alloc (.cells (bvs l) 25)) := by
  obtain ⟨i, hi, hz, hs⟩ := info_key
  unfold buildSliceR
  rw [if_pos rfl]
  refine run_buildSlice w 42 25 1 _ _ i _ Try.underlying42 hi hz (by rw [hs]; decide) (by rw [hs]; decide) ?_
  rw [hs]
  exact fill1 l (by rwa [csz_bvs] at h)
@[go_sem] theorem run_keys2 (l m : List UInt8) (h : csz (bvs l) = 16) (hm : csz (bvs m) = 16) (w : World) : (buildSliceR 42 2 #[(0, .agg (bvs l)), (1, .agg (bvs m))]).run Try.prog w = .ok (.slice (some ⟨w.heap.size, 0, none⟩) 2 2) (w.alloc (.cells (bvs (l ++ m)) 25)) := by
  obtain ⟨i, hi, hz, hs⟩ := info_key
  unfold buildSliceR
  rw [if_pos rfl]
  refine run_buildSlice w 42 25 2 _ _ i _ Try.underlying42 hi hz (by rw [hs]; decide) (by rw [hs]; decide) ?_
  rw [hs]
  exact fill2 l m (by rwa [csz_bvs] at h) (by rwa [csz_bvs] at hm)
end Go.Proofs.Ytkfbfgjfdjhjdaa
