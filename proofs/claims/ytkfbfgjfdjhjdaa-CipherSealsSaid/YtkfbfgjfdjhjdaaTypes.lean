/-
  The arrays and structs of this translation: each is read and written in one step. Closed facts alone.
-/
import Derived.Test.YtkfbfgjfdjhjdaaRows
import Derived.Test.YtkfbfgjfdjhjdaaAgg
namespace Go.Proofs.Ytkfbfgjfdjhjdaa
open Go.RowKit

@[go_sem ↓] theorem loadVar_7 (a : Addr) : loadVar 7 a = loadVarR 7 4 a := by unfold loadVarR; rw [if_pos rfl]
@[go_sem ↓] theorem storeVar_7 (a : Addr) (v : Value) : storeVar 7 a v = storeVarR 7 4 a v := by unfold storeVarR; rw [if_pos rfl]
theorem isRow_7 : isRow Try.prog 7 4 = true := by kernel_rfl
@[go_sem] theorem run_loadVar_7 (g off : Nat) (w : World) : (loadVarR 7 4 ⟨g, off, none⟩).run Try.prog w = loadedR Try.prog 7 4 g off w := run_loadVarR isRow_7 g off w
@[go_sem] theorem run_storeVar_7 (g off : Nat) (vs : Array Value) (w : World) : (storeVarR 7 4 ⟨g, off, none⟩ (.agg vs)).run Try.prog w = storedR Try.prog 7 4 g off vs w := run_storeVarR isRow_7 g off vs w

@[go_sem ↓] theorem loadVar_8 (a : Addr) : loadVar 8 a = loadVarR 8 4 a := by unfold loadVarR; rw [if_pos rfl]
@[go_sem ↓] theorem storeVar_8 (a : Addr) (v : Value) : storeVar 8 a v = storeVarR 8 4 a v := by unfold storeVarR; rw [if_pos rfl]
theorem isRow_8 : isRow Try.prog 8 4 = true := by kernel_rfl
@[go_sem] theorem run_loadVar_8 (g off : Nat) (w : World) : (loadVarR 8 4 ⟨g, off, none⟩).run Try.prog w = loadedR Try.prog 8 4 g off w := run_loadVarR isRow_8 g off w
@[go_sem] theorem run_storeVar_8 (g off : Nat) (vs : Array Value) (w : World) : (storeVarR 8 4 ⟨g, off, none⟩ (.agg vs)).run Try.prog w = storedR Try.prog 8 4 g off vs w := run_storeVarR isRow_8 g off vs w

@[go_sem ↓] theorem loadVar_13 (a : Addr) : loadVar 13 a = loadVarR 13 2 a := by unfold loadVarR; rw [if_pos rfl]
@[go_sem ↓] theorem storeVar_13 (a : Addr) (v : Value) : storeVar 13 a v = storeVarR 13 2 a v := by unfold storeVarR; rw [if_pos rfl]
theorem isRow_13 : isRow Try.prog 13 2 = true := by kernel_rfl
@[go_sem] theorem run_loadVar_13 (g off : Nat) (w : World) : (loadVarR 13 2 ⟨g, off, none⟩).run Try.prog w = loadedR Try.prog 13 2 g off w := run_loadVarR isRow_13 g off w
@[go_sem] theorem run_storeVar_13 (g off : Nat) (vs : Array Value) (w : World) : (storeVarR 13 2 ⟨g, off, none⟩ (.agg vs)).run Try.prog w = storedR Try.prog 13 2 g off vs w := run_storeVarR isRow_13 g off vs w

@[go_sem ↓] theorem loadVar_14 (a : Addr) : loadVar 14 a = loadVarR 14 2 a := by unfold loadVarR; rw [if_pos rfl]
@[go_sem ↓] theorem storeVar_14 (a : Addr) (v : Value) : storeVar 14 a v = storeVarR 14 2 a v := by unfold storeVarR; rw [if_pos rfl]
theorem isRow_14 : isRow Try.prog 14 2 = true := by kernel_rfl
@[go_sem] theorem run_loadVar_14 (g off : Nat) (w : World) : (loadVarR 14 2 ⟨g, off, none⟩).run Try.prog w = loadedR Try.prog 14 2 g off w := run_loadVarR isRow_14 g off w
@[go_sem] theorem run_storeVar_14 (g off : Nat) (vs : Array Value) (w : World) : (storeVarR 14 2 ⟨g, off, none⟩ (.agg vs)).run Try.prog w = storedR Try.prog 14 2 g off vs w := run_storeVarR isRow_14 g off vs w

@[go_sem ↓] theorem loadVar_18 (a : Addr) : loadVar 18 a = loadVarR 18 1 a := by unfold loadVarR; rw [if_pos rfl]
@[go_sem ↓] theorem storeVar_18 (a : Addr) (v : Value) : storeVar 18 a v = storeVarR 18 1 a v := by unfold storeVarR; rw [if_pos rfl]
theorem isRow_18 : isRow Try.prog 18 1 = true := by kernel_rfl
@[go_sem] theorem run_loadVar_18 (g off : Nat) (w : World) : (loadVarR 18 1 ⟨g, off, none⟩).run Try.prog w = loadedR Try.prog 18 1 g off w := run_loadVarR isRow_18 g off w
@[go_sem] theorem run_storeVar_18 (g off : Nat) (vs : Array Value) (w : World) : (storeVarR 18 1 ⟨g, off, none⟩ (.agg vs)).run Try.prog w = storedR Try.prog 18 1 g off vs w := run_storeVarR isRow_18 g off vs w

@[go_sem ↓] theorem loadVar_19 (a : Addr) : loadVar 19 a = loadVarR 19 1 a := by unfold loadVarR; rw [if_pos rfl]
@[go_sem ↓] theorem storeVar_19 (a : Addr) (v : Value) : storeVar 19 a v = storeVarR 19 1 a v := by unfold storeVarR; rw [if_pos rfl]
theorem isRow_19 : isRow Try.prog 19 1 = true := by kernel_rfl
@[go_sem] theorem run_loadVar_19 (g off : Nat) (w : World) : (loadVarR 19 1 ⟨g, off, none⟩).run Try.prog w = loadedR Try.prog 19 1 g off w := run_loadVarR isRow_19 g off w
@[go_sem] theorem run_storeVar_19 (g off : Nat) (vs : Array Value) (w : World) : (storeVarR 19 1 ⟨g, off, none⟩ (.agg vs)).run Try.prog w = storedR Try.prog 19 1 g off vs w := run_storeVarR isRow_19 g off vs w

@[go_sem ↓] theorem loadVar_24 (a : Addr) : loadVar 24 a = loadVarR 24 16 a := by unfold loadVarR; rw [if_pos rfl]
@[go_sem ↓] theorem storeVar_24 (a : Addr) (v : Value) : storeVar 24 a v = storeVarR 24 16 a v := by unfold storeVarR; rw [if_pos rfl]
theorem isRow_24 : isRow Try.prog 24 16 = true := by kernel_rfl
@[go_sem] theorem run_loadVar_24 (g off : Nat) (w : World) : (loadVarR 24 16 ⟨g, off, none⟩).run Try.prog w = loadedR Try.prog 24 16 g off w := run_loadVarR isRow_24 g off w
@[go_sem] theorem run_storeVar_24 (g off : Nat) (vs : Array Value) (w : World) : (storeVarR 24 16 ⟨g, off, none⟩ (.agg vs)).run Try.prog w = storedR Try.prog 24 16 g off vs w := run_storeVarR isRow_24 g off vs w
theorem isBytes_24 : isBytes Try.prog 24 16 = true := by kernel_rfl
@[go_sem] theorem run_index_24 (cs : Array Value) (k : IntKind) (i : Int) (w : World) : (Instr.index 24 (.agg cs) (.int k i)).run Try.prog w = indexedB Try.prog 24 16 cs k i w := run_indexB isBytes_24 cs k i w
@[go_sem] theorem run_equalIn_24 (l m : List UInt8) (hl : csz (bvs l) = 16) (hm : csz (bvs m) = 16) (w : World) : (Op.equalIn 10000 24 (.agg (bvs l)) (.agg (bvs m))).run Try.prog w = .ok (l == m) w := run_equalIn_bytes isBytes_24 l m hl hm w

@[go_sem ↓] theorem loadVar_25 (a : Addr) : loadVar 25 a = loadVarR 25 16 a := by unfold loadVarR; rw [if_pos rfl]
@[go_sem ↓] theorem storeVar_25 (a : Addr) (v : Value) : storeVar 25 a v = storeVarR 25 16 a v := by unfold storeVarR; rw [if_pos rfl]
theorem isRow_25 : isRow Try.prog 25 16 = true := by kernel_rfl
@[go_sem] theorem run_loadVar_25 (g off : Nat) (w : World) : (loadVarR 25 16 ⟨g, off, none⟩).run Try.prog w = loadedR Try.prog 25 16 g off w := run_loadVarR isRow_25 g off w
@[go_sem] theorem run_storeVar_25 (g off : Nat) (vs : Array Value) (w : World) : (storeVarR 25 16 ⟨g, off, none⟩ (.agg vs)).run Try.prog w = storedR Try.prog 25 16 g off vs w := run_storeVarR isRow_25 g off vs w
theorem isBytes_25 : isBytes Try.prog 25 16 = true := by kernel_rfl
@[go_sem] theorem run_index_25 (cs : Array Value) (k : IntKind) (i : Int) (w : World) : (Instr.index 25 (.agg cs) (.int k i)).run Try.prog w = indexedB Try.prog 25 16 cs k i w := run_indexB isBytes_25 cs k i w
@[go_sem] theorem run_equalIn_25 (l m : List UInt8) (hl : csz (bvs l) = 16) (hm : csz (bvs m) = 16) (w : World) : (Op.equalIn 10000 25 (.agg (bvs l)) (.agg (bvs m))).run Try.prog w = .ok (l == m) w := run_equalIn_bytes isBytes_25 l m hl hm w

@[go_sem ↓] theorem loadVar_28 (a : Addr) : loadVar 28 a = loadVarR 28 4 a := by unfold loadVarR; rw [if_pos rfl]
@[go_sem ↓] theorem storeVar_28 (a : Addr) (v : Value) : storeVar 28 a v = storeVarR 28 4 a v := by unfold storeVarR; rw [if_pos rfl]
theorem isRow_28 : isRow Try.prog 28 4 = true := by kernel_rfl
@[go_sem] theorem run_loadVar_28 (g off : Nat) (w : World) : (loadVarR 28 4 ⟨g, off, none⟩).run Try.prog w = loadedR Try.prog 28 4 g off w := run_loadVarR isRow_28 g off w
@[go_sem] theorem run_storeVar_28 (g off : Nat) (vs : Array Value) (w : World) : (storeVarR 28 4 ⟨g, off, none⟩ (.agg vs)).run Try.prog w = storedR Try.prog 28 4 g off vs w := run_storeVarR isRow_28 g off vs w
theorem isBytes_28 : isBytes Try.prog 28 4 = true := by kernel_rfl
@[go_sem] theorem run_index_28 (cs : Array Value) (k : IntKind) (i : Int) (w : World) : (Instr.index 28 (.agg cs) (.int k i)).run Try.prog w = indexedB Try.prog 28 4 cs k i w := run_indexB isBytes_28 cs k i w
@[go_sem] theorem run_equalIn_28 (l m : List UInt8) (hl : csz (bvs l) = 4) (hm : csz (bvs m) = 4) (w : World) : (Op.equalIn 10000 28 (.agg (bvs l)) (.agg (bvs m))).run Try.prog w = .ok (l == m) w := run_equalIn_bytes isBytes_28 l m hl hm w

@[go_sem ↓] theorem loadVar_32 (a : Addr) : loadVar 32 a = loadVarR 32 256 a := by unfold loadVarR; rw [if_pos rfl]
@[go_sem ↓] theorem storeVar_32 (a : Addr) (v : Value) : storeVar 32 a v = storeVarR 32 256 a v := by unfold storeVarR; rw [if_pos rfl]
theorem isRow_32 : isRow Try.prog 32 256 = true := by kernel_rfl
@[go_sem] theorem run_loadVar_32 (g off : Nat) (w : World) : (loadVarR 32 256 ⟨g, off, none⟩).run Try.prog w = loadedR Try.prog 32 256 g off w := run_loadVarR isRow_32 g off w
@[go_sem] theorem run_storeVar_32 (g off : Nat) (vs : Array Value) (w : World) : (storeVarR 32 256 ⟨g, off, none⟩ (.agg vs)).run Try.prog w = storedR Try.prog 32 256 g off vs w := run_storeVarR isRow_32 g off vs w
theorem isBytes_32 : isBytes Try.prog 32 256 = true := by kernel_rfl
@[go_sem] theorem run_index_32 (cs : Array Value) (k : IntKind) (i : Int) (w : World) : (Instr.index 32 (.agg cs) (.int k i)).run Try.prog w = indexedB Try.prog 32 256 cs k i w := run_indexB isBytes_32 cs k i w
@[go_sem] theorem run_equalIn_32 (l m : List UInt8) (hl : csz (bvs l) = 256) (hm : csz (bvs m) = 256) (w : World) : (Op.equalIn 10000 32 (.agg (bvs l)) (.agg (bvs m))).run Try.prog w = .ok (l == m) w := run_equalIn_bytes isBytes_32 l m hl hm w

@[go_sem ↓] theorem loadVar_38 (a : Addr) : loadVar 38 a = loadVarR 38 40 a := by unfold loadVarR; rw [if_pos rfl]
@[go_sem ↓] theorem storeVar_38 (a : Addr) (v : Value) : storeVar 38 a v = storeVarR 38 40 a v := by unfold storeVarR; rw [if_pos rfl]
theorem isRow_38 : isRow Try.prog 38 40 = true := by kernel_rfl
@[go_sem] theorem run_loadVar_38 (g off : Nat) (w : World) : (loadVarR 38 40 ⟨g, off, none⟩).run Try.prog w = loadedR Try.prog 38 40 g off w := run_loadVarR isRow_38 g off w
@[go_sem] theorem run_storeVar_38 (g off : Nat) (vs : Array Value) (w : World) : (storeVarR 38 40 ⟨g, off, none⟩ (.agg vs)).run Try.prog w = storedR Try.prog 38 40 g off vs w := run_storeVarR isRow_38 g off vs w

@[go_sem ↓] theorem loadVar_39 (a : Addr) : loadVar 39 a = loadVarR 39 40 a := by unfold loadVarR; rw [if_pos rfl]
@[go_sem ↓] theorem storeVar_39 (a : Addr) (v : Value) : storeVar 39 a v = storeVarR 39 40 a v := by unfold storeVarR; rw [if_pos rfl]
theorem isRow_39 : isRow Try.prog 39 40 = true := by kernel_rfl
@[go_sem] theorem run_loadVar_39 (g off : Nat) (w : World) : (loadVarR 39 40 ⟨g, off, none⟩).run Try.prog w = loadedR Try.prog 39 40 g off w := run_loadVarR isRow_39 g off w
@[go_sem] theorem run_storeVar_39 (g off : Nat) (vs : Array Value) (w : World) : (storeVarR 39 40 ⟨g, off, none⟩ (.agg vs)).run Try.prog w = storedR Try.prog 39 40 g off vs w := run_storeVarR isRow_39 g off vs w

@[go_sem ↓] theorem loadVar_63 (a : Addr) : loadVar 63 a = loadVarR 63 16 a := by unfold loadVarR; rw [if_pos rfl]
@[go_sem ↓] theorem storeVar_63 (a : Addr) (v : Value) : storeVar 63 a v = storeVarR 63 16 a v := by unfold storeVarR; rw [if_pos rfl]
theorem isRow_63 : isRow Try.prog 63 16 = true := by kernel_rfl
@[go_sem] theorem run_loadVar_63 (g off : Nat) (w : World) : (loadVarR 63 16 ⟨g, off, none⟩).run Try.prog w = loadedR Try.prog 63 16 g off w := run_loadVarR isRow_63 g off w
@[go_sem] theorem run_storeVar_63 (g off : Nat) (vs : Array Value) (w : World) : (storeVarR 63 16 ⟨g, off, none⟩ (.agg vs)).run Try.prog w = storedR Try.prog 63 16 g off vs w := run_storeVarR isRow_63 g off vs w

@[go_sem ↓] theorem loadVar_77 (a : Addr) : loadVar 77 a = loadVarR 77 15 a := by unfold loadVarR; rw [if_pos rfl]
@[go_sem ↓] theorem storeVar_77 (a : Addr) (v : Value) : storeVar 77 a v = storeVarR 77 15 a v := by unfold storeVarR; rw [if_pos rfl]
theorem isRow_77 : isRow Try.prog 77 15 = true := by kernel_rfl
@[go_sem] theorem run_loadVar_77 (g off : Nat) (w : World) : (loadVarR 77 15 ⟨g, off, none⟩).run Try.prog w = loadedR Try.prog 77 15 g off w := run_loadVarR isRow_77 g off w
@[go_sem] theorem run_storeVar_77 (g off : Nat) (vs : Array Value) (w : World) : (storeVarR 77 15 ⟨g, off, none⟩ (.agg vs)).run Try.prog w = storedR Try.prog 77 15 g off vs w := run_storeVarR isRow_77 g off vs w

@[go_sem ↓] theorem loadVar_81 (a : Addr) : loadVar 81 a = loadVarR 81 4 a := by unfold loadVarR; rw [if_pos rfl]
@[go_sem ↓] theorem storeVar_81 (a : Addr) (v : Value) : storeVar 81 a v = storeVarR 81 4 a v := by unfold storeVarR; rw [if_pos rfl]
theorem isRow_81 : isRow Try.prog 81 4 = true := by kernel_rfl
@[go_sem] theorem run_loadVar_81 (g off : Nat) (w : World) : (loadVarR 81 4 ⟨g, off, none⟩).run Try.prog w = loadedR Try.prog 81 4 g off w := run_loadVarR isRow_81 g off w
@[go_sem] theorem run_storeVar_81 (g off : Nat) (vs : Array Value) (w : World) : (storeVarR 81 4 ⟨g, off, none⟩ (.agg vs)).run Try.prog w = storedR Try.prog 81 4 g off vs w := run_storeVarR isRow_81 g off vs w

@[go_sem ↓] theorem loadVar_82 (a : Addr) : loadVar 82 a = loadVarR 82 4 a := by unfold loadVarR; rw [if_pos rfl]
@[go_sem ↓] theorem storeVar_82 (a : Addr) (v : Value) : storeVar 82 a v = storeVarR 82 4 a v := by unfold storeVarR; rw [if_pos rfl]
theorem isRow_82 : isRow Try.prog 82 4 = true := by kernel_rfl
@[go_sem] theorem run_loadVar_82 (g off : Nat) (w : World) : (loadVarR 82 4 ⟨g, off, none⟩).run Try.prog w = loadedR Try.prog 82 4 g off w := run_loadVarR isRow_82 g off w
@[go_sem] theorem run_storeVar_82 (g off : Nat) (vs : Array Value) (w : World) : (storeVarR 82 4 ⟨g, off, none⟩ (.agg vs)).run Try.prog w = storedR Try.prog 82 4 g off vs w := run_storeVarR isRow_82 g off vs w

@[go_sem ↓] theorem loadVar_94 (a : Addr) : loadVar 94 a = loadVarR 94 11 a := by unfold loadVarR; rw [if_pos rfl]
@[go_sem ↓] theorem storeVar_94 (a : Addr) (v : Value) : storeVar 94 a v = storeVarR 94 11 a v := by unfold storeVarR; rw [if_pos rfl]
theorem isRow_94 : isRow Try.prog 94 11 = true := by kernel_rfl
@[go_sem] theorem run_loadVar_94 (g off : Nat) (w : World) : (loadVarR 94 11 ⟨g, off, none⟩).run Try.prog w = loadedR Try.prog 94 11 g off w := run_loadVarR isRow_94 g off w
@[go_sem] theorem run_storeVar_94 (g off : Nat) (vs : Array Value) (w : World) : (storeVarR 94 11 ⟨g, off, none⟩ (.agg vs)).run Try.prog w = storedR Try.prog 94 11 g off vs w := run_storeVarR isRow_94 g off vs w

@[go_sem ↓] theorem loadVar_95 (a : Addr) : loadVar 95 a = loadVarR 95 11 a := by unfold loadVarR; rw [if_pos rfl]
@[go_sem ↓] theorem storeVar_95 (a : Addr) (v : Value) : storeVar 95 a v = storeVarR 95 11 a v := by unfold storeVarR; rw [if_pos rfl]
theorem isRow_95 : isRow Try.prog 95 11 = true := by kernel_rfl
@[go_sem] theorem run_loadVar_95 (g off : Nat) (w : World) : (loadVarR 95 11 ⟨g, off, none⟩).run Try.prog w = loadedR Try.prog 95 11 g off w := run_loadVarR isRow_95 g off w
@[go_sem] theorem run_storeVar_95 (g off : Nat) (vs : Array Value) (w : World) : (storeVarR 95 11 ⟨g, off, none⟩ (.agg vs)).run Try.prog w = storedR Try.prog 95 11 g off vs w := run_storeVarR isRow_95 g off vs w

theorem elem_42 : elemB Try.prog 42 25 16 16 = true := by kernel_rfl
theorem elem_46 : elemB Try.prog 46 5 1 1 = true := by kernel_rfl
theorem elem_75 : elemB Try.prog 75 28 4 4 = true := by kernel_rfl

end Go.Proofs.Ytkfbfgjfdjhjdaa
