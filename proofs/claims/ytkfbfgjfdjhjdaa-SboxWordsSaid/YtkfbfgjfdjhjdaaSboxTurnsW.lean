/-
  The laws SboxBack and SboxTurns, walked: for every byte they answer true. No condition.
-/
import Derived.Test.YtkfbfgjfdjhjdaaBack
import Derived.Test.YtkfbfgjfdjhjdaaSboxSubW
namespace Go.Proofs.Ytkfbfgjfdjhjdaa
open Go.ChangeShapes Go.WideShapes Go.ChangeAt Go.RowKit
theorem back_99 : backB 99 = 0 := by decide +kernel
theorem back_237 : backB 237 = 83 := by decide +kernel
theorem sub_1 : subB 1 = 124 := by decide +kernel
theorem back99_any (w : World) : Calls Try.prog 29 #[.int .u8 99] w fun e w' => e = .returned (.int .u8 0) ∧ Below w.heap.size w w' := by
  have := back_any 99 w; rw [back_99] at this; exact this
theorem back237_any (w : World) : Calls Try.prog 29 #[.int .u8 237] w fun e w' => e = .returned (.int .u8 83) ∧ Below w.heap.size w w' := by
  have := back_any 237 w; rw [back_237] at this; exact this
theorem sub1_any (w : World) : Calls Try.prog 26 #[.int .u8 1] w fun e w' => e = .returned (.int .u8 124) ∧ Below w.heap.size w w' := by
  have := sub_any 1 w; rw [sub_1] at this; exact this
theorem backSub_any (b : UInt8) (w : World) : Calls Try.prog 29 #[.int .u8 (subB b).toNat] w fun e w' => e = .returned (.int .u8 b.toNat) ∧ Below w.heap.size w w' := by
  have := back_any (subB b) w; rw [(turns b).1] at this; exact this
theorem subBack_any (b : UInt8) (w : World) : Calls Try.prog 26 #[.int .u8 (backB b).toNat] w fun e w' => e = .returned (.int .u8 b.toNat) ∧ Below w.heap.size w w' := by
  have := sub_any (backB b) w; rw [(turns b).2.1] at this; exact this
theorem refBack_any (b : UInt8) (w : World) : Calls Try.prog 27 #[.int .u8 (backB b).toNat] w fun e w' => e = .returned (.int .u8 b.toNat) ∧ Below w.heap.size w w' := by
  have := refSub_any (backB b) w; rw [(turns b).2.1] at this; exact this
attribute [local irreducible] sboxL subB backB
set_option maxRecDepth 100000 in
set_option maxHeartbeats 1000000 in
theorem sboxBack_any (b : UInt8) (w : World) : Calls Try.prog 7 #[.int .u8 b.toNat] w fun e w' => e = .returned (.bool true) ∧ Below w.heap.size w w' := by
  have h0 := u8_ofInt b
  have hB := Below.refl w.heap.size w
  go_enter Try.func7, Try.ntmps7
  go_wp2_with (first | (go_at_call 29; (with_reducible refine (back99_any _).mono ?_); rintro e w' ⟨rfl, hb⟩; replace hB := hB.trans (hb.mono hB.size); clear hb) | (go_at_call 29; (with_reducible refine (back237_any _).mono ?_); rintro e w' ⟨rfl, hb⟩; replace hB := hB.trans (hb.mono hB.size); clear hb) | (go_at_call 29; (with_reducible refine (back_any _ _).mono ?_); rintro e w' ⟨rfl, hb⟩; replace hB := hB.trans (hb.mono hB.size); clear hb) | (go_at_call 27; (with_reducible refine (refBack_any _ _).mono ?_); rintro e w' ⟨rfl, hb⟩; replace hB := hB.trans (hb.mono hB.size); clear hb))
  go_ret
  exact ⟨rfl, hB⟩
theorem ne_int {a b : UInt8} (h : a ≠ b) : ((a.toNat : Int) != (b.toNat : Int)) = true := by
  have : a.toNat ≠ b.toNat := fun h' => h (UInt8.toNat_inj.mp h')
  simp only [bne_iff_ne]; omega
theorem compl_all : ∀ n : Fin 256, bits .xor .u8 IntKind.u8.max ((UInt8.ofNat n).toNat : Int) = ((~~~ (UInt8.ofNat n)).toNat : Int) := by decide +kernel
theorem compl_u8 (b : UInt8) : bits .xor .u8 IntKind.u8.max (b.toNat : Int) = ((~~~ b).toNat : Int) := by
  have := compl_all ⟨b.toNat, b.toNat_lt⟩
  simpa using this
set_option maxRecDepth 100000 in
set_option maxHeartbeats 1000000 in
theorem sboxTurns_any (b : UInt8) (w : World) : Calls Try.prog 8 #[.int .u8 b.toNat] w fun e w' => e = .returned (.bool true) ∧ Below w.heap.size w w' := by
  have h0 := u8_ofInt b
  have h1 := ne_int (turns b).2.2.1
  have h2 := ne_int (turns b).2.2.2
  rw [← compl_u8] at h2
  have hB := Below.refl w.heap.size w
  go_enter Try.func8, Try.ntmps8
  go_wp2_with (first | (go_at_call 26; (with_reducible refine (sub1_any _).mono ?_); rintro e w' ⟨rfl, hb⟩; replace hB := hB.trans (hb.mono hB.size); clear hb) | (go_at_call 29; (with_reducible refine (backSub_any b _).mono ?_); rintro e w' ⟨rfl, hb⟩; replace hB := hB.trans (hb.mono hB.size); clear hb) | (go_at_call 29; (with_reducible refine (back_any b _).mono ?_); rintro e w' ⟨rfl, hb⟩; replace hB := hB.trans (hb.mono hB.size); clear hb) | (go_at_call 26; (with_reducible refine (subBack_any b _).mono ?_); rintro e w' ⟨rfl, hb⟩; replace hB := hB.trans (hb.mono hB.size); clear hb) | (go_at_call 26; (with_reducible refine (sub_any b _).mono ?_); rintro e w' ⟨rfl, hb⟩; replace hB := hB.trans (hb.mono hB.size); clear hb))
  go_ret
  exact ⟨rfl, hB⟩
end Go.Proofs.Ytkfbfgjfdjhjdaa
