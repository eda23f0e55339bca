/-
  The law RedoStart: whatever three numbers come in, the program's Start and the document's Start answer the same. No condition.
-/
import Derived.Test.YtkfbfgjfdjhjdaaRows
import Derived.Test.YtkfbfgjfdjhjdaaLib
namespace Go.Proofs.Ytkfbfgjfdjhjdaa
open Go.ChangeShapes Go.WideShapes Go.ChangeAt Go.RowKit

def startF (c h l : Int) : Int :=
  if c < 0 ∨ 4611686018427387904 < c then 4 else if h = c then (if l = c + 1 then 3 else if l = c then 2 else 1) else if l = c ∧ (h < 0 ∨ h + 1 = c) then 2 else 4

set_option maxHeartbeats 400000 in
theorem start_any (c h l : Int) (w : World) :
    Calls Try.prog 18 #[.int .i64 c, .int .i64 h, .int .i64 l] w fun e w' => e = .returned (.int .i64 (startF c h l)) ∧ w = w' := by
  go_enter Try.func18, Try.ntmps18
  go_wp2
  all_goals (go_ret; refine ⟨ret_int ?_, rfl⟩; unfold startF; grind)

set_option maxHeartbeats 800000 in
theorem refStart_any (c h l : Int) (w : World) (h0 : -9223372036854775808 ≤ h) (h1 : h ≤ 9223372036854775807) :
    Calls Try.prog 19 #[.int .i64 c, .int .i64 h, .int .i64 l] w fun e w' => e = .returned (.int .i64 (startF c h l)) ∧ w = w' := by
  have e : wrap64 (h + 1) = if h = 9223372036854775807 then -9223372036854775808 else h + 1 := by unfold wrap64; split <;> omega
  have E := hid e; clear e
  go_enter Try.func19, Try.ntmps19
  go_wp2
  all_goals (go_ret; have e := E.out; refine ⟨ret_int ?_, rfl⟩; unfold startF; grind)

-- the law's own function
set_option maxHeartbeats 800000 in
theorem redoStart_any (c h l : Int) (w : World) (h0 : -9223372036854775808 ≤ h) (h1 : h ≤ 9223372036854775807) :
    Calls Try.prog 3 #[.int .i64 c, .int .i64 h, .int .i64 l] w fun e w' => e = .returned (.bool true) ∧ w = w' := by
  have e1 : startF 5 5 4 = 1 := by decide
  have e2 : startF 5 4 5 = 2 := by decide
  go_enter Try.func3, Try.ntmps3
  go_wp2_with (first | (go_at_call 18; refine (start_any _ _ _ _).mono ?_; rintro e w' ⟨rfl, rfl⟩) | (go_at_call 19; refine (refStart_any _ _ _ _ h0 h1).mono ?_; rintro e w' ⟨rfl, rfl⟩))
  go_ret
  exact ⟨rfl, rfl⟩

end Go.Proofs.Ytkfbfgjfdjhjdaa
