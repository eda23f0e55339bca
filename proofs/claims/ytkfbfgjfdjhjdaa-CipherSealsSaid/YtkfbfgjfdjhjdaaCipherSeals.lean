/-
  The law CipherSeals: for every key and every block it answers true. No condition.
-/
import Derived.Test.YtkfbfgjfdjhjdaaRows
import Derived.Test.YtkfbfgjfdjhjdaaOpen
import Derived.Test.YtkfbfgjfdjhjdaaCipherSealsW
import Derived.Test.YtkfbfgjfdjhjdaaOpenS
namespace Go.Proofs.Ytkfbfgjfdjhjdaa
open Go.ChangeShapes Go.WideShapes Go.ChangeAt Go.RowKit

theorem Try.own : ownKnob Try.prog.godebug = none := by kernel_rfl
theorem Try.laidOut : laidOutB Try.prog = true := by kernel_rfl
theorem cells_25 : Try.prog.cellsOf 25 = 16 := by kernel_rfl

set_option maxRecDepth 100000 in
theorem cipherSeals_lifted (os : Os) (started : os.Started) (H : Type) (enc : TypeId × Value → H) :
    ReturnsInHanded {} Try.checked os 17 .any (Rows.cipherSealsSpec.pre6 enc Try.prog Try.f17 Rows.cipherSealsRow.domain false) (Rows.cipherSealsSpec.post enc Try.prog Try.f17 false true false false) := by
  refine law_lift (C := Try.checked) Try.own started (by kernel_rfl) Try.func17
    (ChangeSpec.witness6 (enc := enc) (C := Try.checked) false ⟨#[], #[.slice none 0 0, .agg #[.int .u8 0, .int .u8 0, .int .u8 0, .int .u8 0, .int .u8 0, .int .u8 0, .int .u8 0, .int .u8 0, .int .u8 0, .int .u8 0, .int .u8 0, .int .u8 0, .int .u8 0, .int .u8 0, .int .u8 0, .int .u8 0]], []⟩ 8 (by kernel_rfl) (by kernel_rfl) (by kernel_rfl) (by kernel_rfl))
    rfl (by kernel_rfl) Try.underlying4 (fun ds h => by match ds, h with | [a, b], _ => exact ⟨rfl, rfl, rfl⟩) Try.laidOut (by kernel_rfl) ?_
  intro W base args ds p hval0 hA0 hlt hsz0
  have hval : ∀ (j : Nat) t v, Try.f17.params[j]? = some t → args[j]? = some v → Value.okWide Try.prog W .any base t v := hval0
  have hA : DataW.TrodAll enc Try.prog W 0 (fun _ => true) true Try.f17.params.toList args.toList ds p := hA0
  have hsz : (DataW.weightsEach Try.prog Try.f17.params.toList ds).all (· ≤ reachBytes) = true := hsz0
  rw [Try.params17] at hA hval hsz
  obtain ⟨v0, v1, d0, d1, p0, p1, rfl, rfl, rfl, h0, h1⟩ := trodAll_two hA
  obtain ⟨x0, lx0, mx0⟩ := open_bytes Try.underlying46 Try.underlying5 (by kernel_rfl) (okWide_slice Try.underlying46 (hval 0 _ v0 rfl rfl)) h0
  obtain ⟨x1, lx1, rfl⟩ := open_barr isBytes_25 cells_25 (by intro e he; rw [show Try.prog.underlying 25 = _ from Try.underlying25] at he; cases he; kernel_rfl) (hval 1 _ v1 rfl rfl) h1
  exact cipherSeals_any x0 x1 v0 W lx1 lx0 mx0

theorem cipherSeals_holds : Rows.CipherSealsSaid :=
  OpenClaim.holds_of_wide 17 Try.f17 rfl rfl rfl rfl rfl rfl rfl ⟨rfl, rfl, rfl, rfl, rfl⟩ rfl rfl rfl rfl rfl (by kernel_rfl) Try.func17 (by kernel_rfl)
    (of_decide_eq_true (by kernel_rfl)) (by unfold Func.isWrapper; rw [if_neg (by decide +kernel)]; exact ⟨rfl, rfl⟩)
    (fun os started H enc _ => cipherSeals_lifted os started H enc)

end Go.Proofs.Ytkfbfgjfdjhjdaa
