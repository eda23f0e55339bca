/-
  The law SboxSub, walked: for every byte it answers true. No condition.
-/
import Derived.Test.YtkfbfgjfdjhjdaaSbox
namespace Go.Proofs.Ytkfbfgjfdjhjdaa
open Go.ChangeShapes Go.WideShapes Go.ChangeAt Go.RowKit
theorem sub_0 : subB 0 = 99 := by decide +kernel
theorem sub_83 : subB 83 = 237 := by decide +kernel
theorem sub0_any (w : World) : Calls Try.prog 26 #[.int .u8 0] w fun e w' => e = .returned (.int .u8 99) ∧ Below w.heap.size w w' := by
  have := sub_any 0 w; rw [sub_0] at this; exact this
theorem sub83_any (w : World) : Calls Try.prog 26 #[.int .u8 83] w fun e w' => e = .returned (.int .u8 237) ∧ Below w.heap.size w w' := by
  have := sub_any 83 w; rw [sub_83] at this; exact this
attribute [local irreducible] sboxL subB
set_option maxRecDepth 100000 in
set_option maxHeartbeats 1000000 in
theorem sboxSub_any (b : UInt8) (w : World) : Calls Try.prog 6 #[.int .u8 b.toNat] w fun e w' => e = .returned (.bool true) ∧ Below w.heap.size w w' := by
  have h0 := u8_ofInt b
  have h1 : (0 : Int) ≤ (b.toNat : Int) := by omega
  have hx := sboxL_get b
  have hB := Below.refl w.heap.size w
  go_enter Try.func6, Try.ntmps6
  go_wp2_with (first | (go_at_call 26; (with_reducible refine (sub0_any _).mono ?_); rintro e w' ⟨rfl, hb⟩; replace hB := hB.trans (hb.mono hB.size); clear hb) | (go_at_call 26; (with_reducible refine (sub83_any _).mono ?_); rintro e w' ⟨rfl, hb⟩; replace hB := hB.trans (hb.mono hB.size); clear hb) | (go_at_call 26; (with_reducible refine (sub_any _ _).mono ?_); rintro e w' ⟨rfl, hb⟩; replace hB := hB.trans (hb.mono hB.size); clear hb) | (go_at_call 27; (with_reducible refine (refSub_any _ _).mono ?_); rintro e w' ⟨rfl, hb⟩; replace hB := hB.trans (hb.mono hB.size); clear hb) | (go_at_call 28; (with_reducible refine (table2_any _).mono ?_); rintro e w' ⟨rfl, hb⟩; replace hB := hB.trans (hb.mono hB.size); clear hb))
  go_ret
  exact ⟨rfl, hB⟩
end Go.Proofs.Ytkfbfgjfdjhjdaa
