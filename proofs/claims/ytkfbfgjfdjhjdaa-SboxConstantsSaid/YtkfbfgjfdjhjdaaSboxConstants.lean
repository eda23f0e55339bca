/-
  The law SboxConstants: for every number it answers true. No condition.
-/
import Derived.Test.YtkfbfgjfdjhjdaaRows
import Derived.Test.YtkfbfgjfdjhjdaaOpen
import Derived.Test.YtkfbfgjfdjhjdaaConstW
namespace Go.Proofs.Ytkfbfgjfdjhjdaa
open Go.ChangeShapes Go.WideShapes Go.ChangeAt Go.RowKit

theorem Try.own : ownKnob Try.prog.godebug = none := by kernel_rfl
theorem Try.laidOut : laidOutB Try.prog = true := by kernel_rfl

set_option maxRecDepth 100000 in
theorem sboxConstants_lifted (os : Os) (started : os.Started) (H : Type) (enc : TypeId × Value → H) :
    ReturnsInHanded {} Try.checked os 10 .any (Rows.sboxConstantsSpec.pre6 enc Try.prog Try.f10 Rows.sboxConstantsRow.domain false) (Rows.sboxConstantsSpec.post enc Try.prog Try.f10 false true false false) := by
  refine law_lift (C := Try.checked) Try.own started (by kernel_rfl) Try.func10
    (ChangeSpec.witness6 (enc := enc) (C := Try.checked) false ⟨#[], #[.int .i64 0], []⟩ 8 (by kernel_rfl) (by kernel_rfl) (by kernel_rfl) (by kernel_rfl))
    rfl (by kernel_rfl) Try.underlying4 (fun ds h => by match ds, h with | [a], _ => exact ⟨rfl, rfl, rfl⟩) Try.laidOut (by kernel_rfl) ?_
  intro W base args ds p hval0 hA0 hlt hsz0
  have hval : ∀ (j : Nat) t v, Try.f10.params[j]? = some t → args[j]? = some v → Value.okWide Try.prog W .any base t v := hval0
  have hA : DataW.TrodAll enc Try.prog W 0 (fun _ => true) true Try.f10.params.toList args.toList ds p := hA0
  have hsz : (DataW.weightsEach Try.prog Try.f10.params.toList ds).all (· ≤ reachBytes) = true := hsz0
  rw [Try.params10] at hA hval hsz
  obtain ⟨v0, d0, rfl, rfl, h0⟩ := trodAll_one hA
  obtain ⟨x0, rfl, rfl, rfl, wx0⟩ := open_int Try.underlying3 (hval 0 _ v0 rfl rfl) h0
  exact sboxConstants_any x0 W

theorem sboxConstants_holds : Rows.SboxConstantsSaid :=
  OpenClaim.holds_of_wide 10 Try.f10 rfl rfl rfl rfl rfl rfl rfl ⟨rfl, rfl, rfl, rfl, rfl⟩ rfl rfl rfl rfl rfl (by kernel_rfl) Try.func10 (by kernel_rfl)
    (of_decide_eq_true (by kernel_rfl)) (by unfold Func.isWrapper; rw [if_neg (by decide +kernel)]; exact ⟨rfl, rfl⟩)
    (fun os started H enc _ => sboxConstants_lifted os started H enc)

end Go.Proofs.Ytkfbfgjfdjhjdaa
