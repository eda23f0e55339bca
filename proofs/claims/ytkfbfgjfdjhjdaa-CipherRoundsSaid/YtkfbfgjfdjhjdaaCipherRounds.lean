/-
  The law CipherRounds: for every key it answers true. No condition.
-/
import Derived.Test.YtkfbfgjfdjhjdaaRows
import Derived.Test.YtkfbfgjfdjhjdaaOpen
import Derived.Test.YtkfbfgjfdjhjdaaCipherRoundsW
import Derived.Test.YtkfbfgjfdjhjdaaOpenS
namespace Go.Proofs.Ytkfbfgjfdjhjdaa
open Go.ChangeShapes Go.WideShapes Go.ChangeAt Go.RowKit

theorem Try.own : ownKnob Try.prog.godebug = none := by kernel_rfl
theorem Try.laidOut : laidOutB Try.prog = true := by kernel_rfl

set_option maxRecDepth 100000 in
theorem cipherRounds_lifted (os : Os) (started : os.Started) (H : Type) (enc : TypeId × Value → H) :
    ReturnsInHanded {} Try.checked os 15 .any (Rows.cipherRoundsSpec.pre6 enc Try.prog Try.f15 Rows.cipherRoundsRow.domain false) (Rows.cipherRoundsSpec.post enc Try.prog Try.f15 false true false false) := by
  refine law_lift (C := Try.checked) Try.own started (by kernel_rfl) Try.func15
    (ChangeSpec.witness6 (enc := enc) (C := Try.checked) false ⟨#[], #[.slice none 0 0], []⟩ 8 (by kernel_rfl) (by kernel_rfl) (by kernel_rfl) (by kernel_rfl))
    rfl (by kernel_rfl) Try.underlying4 (fun ds h => by match ds, h with | [a], _ => exact ⟨rfl, rfl, rfl⟩) Try.laidOut (by kernel_rfl) ?_
  intro W base args ds p hval0 hA0 hlt hsz0
  have hval : ∀ (j : Nat) t v, Try.f15.params[j]? = some t → args[j]? = some v → Value.okWide Try.prog W .any base t v := hval0
  have hA : DataW.TrodAll enc Try.prog W 0 (fun _ => true) true Try.f15.params.toList args.toList ds p := hA0
  have hsz : (DataW.weightsEach Try.prog Try.f15.params.toList ds).all (· ≤ reachBytes) = true := hsz0
  rw [Try.params15] at hA hval hsz
  obtain ⟨v0, d0, rfl, rfl, h0⟩ := trodAll_one hA
  obtain ⟨x0, lx0, mx0⟩ := open_bytes Try.underlying46 Try.underlying5 (by kernel_rfl) (okWide_slice Try.underlying46 (hval 0 _ v0 rfl rfl)) h0
  exact cipherRounds_any x0 v0 W lx0 mx0

theorem cipherRounds_holds : Rows.CipherRoundsSaid :=
  OpenClaim.holds_of_wide 15 Try.f15 rfl rfl rfl rfl rfl rfl rfl ⟨rfl, rfl, rfl, rfl, rfl⟩ rfl rfl rfl rfl rfl (by kernel_rfl) Try.func15 (by kernel_rfl)
    (of_decide_eq_true (by kernel_rfl)) (by unfold Func.isWrapper; rw [if_neg (by decide +kernel)]; exact ⟨rfl, rfl⟩)
    (fun os started H enc _ => cipherRounds_lifted os started H enc)

end Go.Proofs.Ytkfbfgjfdjhjdaa
