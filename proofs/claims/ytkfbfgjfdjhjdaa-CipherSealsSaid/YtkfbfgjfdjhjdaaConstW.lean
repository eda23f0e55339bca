/-
  The document's Constant, and the law SboxConstants, walked. No condition.
-/
import Derived.Test.YtkfbfgjfdjhjdaaConst
namespace Go.Proofs.Ytkfbfgjfdjhjdaa
open Go.ChangeShapes Go.WideShapes Go.ChangeAt Go.RowKit
/-- A round's constant's first byte. -/
def conB (i : Int) : UInt8 := if 1 ≤ i ∧ i ≤ 60 then powB 2 (i - 1).toNat else 0
theorem conB_in (i : Nat) (h1 : 1 ≤ i) (h60 : i ≤ 60) : conB i = powB 2 (i - 1) := by
  unfold conB; rw [if_pos (by omega)]; congr 1; omega
theorem conB_out (i : Int) (h : i < 1 ∨ 60 < i) : conB i = 0 := by unfold conB; rw [if_neg (by omega)]
theorem conB_9 : conB 9 = 27 := by
  rw [show (9 : Int) = ((9 : Nat) : Int) from rfl, conB_in 9 (by omega) (by omega)]
  simp only [powB_succ, powB_zero]
  decide +kernel
attribute [irreducible] conB

set_option maxRecDepth 100000 in
set_option maxHeartbeats 1000000 in
theorem constantOut_any (i : Int) (h : i < 1 ∨ 60 < i) (w : World) : Calls Try.prog 32 #[.int .i64 i] w fun e w' => e = .returned (.agg (bvs (zs 4))) ∧ Below w.heap.size w w' := by
  have z := zs4
  have s0 : csz (bvs (zs 4)) = 4 := csz_zs 4
  rcases h with h | h
  · refine calls_of_marks Try.func32 rfl ?_
    simp only [Try.ntmps32, List.size_toArray, List.length_cons, List.length_nil, Nat.reduceAdd, Nat.reduceSub, Array.replicate_succ, Array.replicate_zero, List.push_toArray, List.append_toArray, List.nil_append, List.cons_append]
    go_wp2
    refine postM0 (.inl rfl) ?_
    exact post_cell (n := 4) Try.results32 (by kernel_rfl) (.inl rfl) _ (bvs (zs 4)) 28 (0, 0) rfl rfl (by simp [go_sem]) s0 ⟨rfl, (by repeat (first | exact Below.refl _ _ | assumption | refine Below.alloc ?_ (by first | omega | (simp; done) | (simp; omega)) _ | refine Below.drew ?_ | refine Below.setCell ?_ (by first | omega | (simp; done) | (simp; omega)) _ | refine below_setRow' ?_ (by first | omega | (simp; done) | (simp; omega)) _ | refine below_drewN' ?_ _))⟩
  · have h2 : ¬ i < 1 := by omega
    refine calls_of_marks Try.func32 rfl ?_
    simp only [Try.ntmps32, List.size_toArray, List.length_cons, List.length_nil, Nat.reduceAdd, Nat.reduceSub, Array.replicate_succ, Array.replicate_zero, List.push_toArray, List.append_toArray, List.nil_append, List.cons_append]
    go_wp2
    refine postM0 (.inl rfl) ?_
    exact post_cell (n := 4) Try.results32 (by kernel_rfl) (.inl rfl) _ (bvs (zs 4)) 28 (0, 0) rfl rfl (by simp [go_sem]) s0 ⟨rfl, (by repeat (first | exact Below.refl _ _ | assumption | refine Below.alloc ?_ (by first | omega | (simp; done) | (simp; omega)) _ | refine Below.drew ?_ | refine Below.setCell ?_ (by first | omega | (simp; done) | (simp; omega)) _ | refine below_setRow' ?_ (by first | omega | (simp; done) | (simp; omega)) _ | refine below_drewN' ?_ _))⟩
theorem constAll_any (i : Int) (w : World) : Calls Try.prog 32 #[.int .i64 i] w fun e w' => e = .returned (.agg (bvs [conB i, 0, 0, 0])) ∧ Below w.heap.size w w' := by
  by_cases h : 1 ≤ i ∧ i ≤ 60
  · obtain ⟨n, rfl⟩ : ∃ n : Nat, i = (n : Int) := ⟨i.toNat, by omega⟩
    rw [conB_in n (by omega) (by omega)]
    exact constant_any n (by omega) (by omega) w
  · rw [conB_out i (by omega), ← zs4_is]
    exact constantOut_any i (by omega) w
theorem const9_any (w : World) : Calls Try.prog 32 #[.int .i64 9] w fun e w' => e = .returned (.agg (bvs [27, 0, 0, 0])) ∧ Below w.heap.size w w' := by
  rw [← conB_9]; exact constAll_any 9 w
theorem refMul2_any (a : UInt8) (w : World) : Calls Try.prog 57 #[.int .u8 a.toNat, .int .u8 2] w fun e w' => e = .returned (.int .u8 (mulB a 2).toNat) ∧ Below w.heap.size w w' := by
  rw [← refMul_2]; exact refMul_any a 2 w

set_option maxRecDepth 100000 in
set_option maxHeartbeats 1000000 in
theorem refConstant_any (i : Int) (w : World) : Calls Try.prog 33 #[.int .i64 i] w fun e w' => e = .returned (.int .u8 (conB i).toNat) ∧ Below w.heap.size w w' := by
  by_cases h : 1 ≤ i ∧ i ≤ 60
  · obtain ⟨n, rfl⟩ : ∃ n : Nat, i = (n : Int) := ⟨i.toNat, by omega⟩
    have h1 : ¬ (n : Int) < 1 := by omega
    have h2 : ¬ 60 < (n : Int) := by omega
    have hc := hid (conB_in n (by omega) (by omega))
    have hm : 1 ≤ n := by omega
    have hm60 : n ≤ 60 := by omega
    have hS0 := St.start w
    go_enter Try.func33, Try.ntmps33
    go_wp2_with fail
    go_loopw [3, 4] (fun u3 u4 wr => ∃ k : Nat, k + 1 ≤ n ∧ u3 = .int .u8 ((powB 2 k).toNat : Int) ∧ u4 = .int .i64 ((k : Int) + 1) ∧ St w wr [])
      (fun _ u4 _ => n - (intOf u4).toNat)
    case atStart => exact ⟨0, by omega, by rw [powB_zero]; rfl, rfl, hS0⟩
    case round =>
      obtain ⟨k, hk, rfl, rfl, hS⟩ := hrel
      by_cases hlt : k + 1 < n
      · have hlt2 : (k : Int) + 1 < (n : Int) := by omega
        have h62 : (k : Int) < 60 := by omega
        go_wp2_with fail
        with_reducible refine (refMul2_any (powB 2 k) _).mono ?_
        rintro e w1 ⟨rfl, hb⟩
        have hS2 := hS.call hb
        clear hS hb
        go_wp2
        go_roundw
        case rel => exact ⟨k + 1, by omega, by rw [powB_succ], by go_num, hS2⟩
        case measure => simp [intOf]; omega
      · have hkn : n - 1 = k := by omega
        have hlt2 : ¬ (k : Int) + 1 < (n : Int) := by omega
        have hB := hS.below
        have HK := hid hkn
        clear hkn
        go_wp2
        go_ret
        exact ⟨by rw [hc.out, HK.out]; rfl, hB⟩
  · have hc := hid (conB_out i (by omega))
    have hB := Below.refl w.heap.size w
    by_cases h1 : i < 1
    · go_enter Try.func33, Try.ntmps33
      go_wp2
      go_ret
      exact ⟨by rw [hc.out]; rfl, hB⟩
    · have h2 : 60 < i := by omega
      go_enter Try.func33, Try.ntmps33
      go_wp2
      go_ret
      exact ⟨by rw [hc.out]; rfl, hB⟩

set_option maxRecDepth 100000 in
set_option maxHeartbeats 1000000 in
theorem sboxConstants_any (i : Int) (w : World) : Calls Try.prog 10 #[.int .i64 i] w fun e w' => e = .returned (.bool true) ∧ Below w.heap.size w w' := by
  have z := zs4
  have e0 : ¬ bvs (zs 4) = #[] := by rw [← zs4]; simp
  generalize hc : conB i = c
  have HC := hid hc
  clear hc
  have c1 := hid (constAll_any i); have c2 := hid (refConstant_any i)
  rw [HC.out] at c1 c2
  have e1 : (bvs (zs 4)).setIfInBounds 0 (.int .u8 27) = bvs [27, 0, 0, 0] := by rw [← zs4]; rfl
  have e2 : (bvs (zs 4)).setIfInBounds 0 (.int .u8 (c.toNat : Int)) = bvs [c, 0, 0, 0] := by rw [← zs4]; rfl
  have s0 : csz (bvs [27, 0, 0, 0]) = 4 := rfl
  have s1 : csz (bvs [c, 0, 0, 0]) = 4 := rfl
  go_enter Try.func10, Try.ntmps10
  go_wp2_with fail
  with_reducible refine (c1.out _).mono ?_
  rintro e w1 ⟨rfl, hb⟩
  have hS := ((St.start w).call hb).alloc (bvs [c, 0, 0, 0]) 28
  clear hb
  go_wp2_with fail
  generalize w1.alloc (.cells (bvs [c, 0, 0, 0]) 28) = W at *
  generalize w1.heap.size = n1 at *
  refine region_cls (by kernel_rfl) (by kernel_rfl) ?_
  repeat (first | (refine BigFrame.wpQuiet_skip rfl ?_; simp only [Act.put, List.setIfInBounds_toArray, List.set_cons_zero, List.set_cons_succ]) | (refine BigFrame.wpQuiet_want rfl (fun K hK => ?_); apply Exists.intro; refine ⟨fun w' hw' => ?_, hK _ ?_⟩; (focus (have zS := hS.cls hw'; obtain ⟨zb0, zc0, zf0, zl0, zn0⟩ := zS.at 0 rfl; clear zS; go_simp; (try (go_bits; go_simp)); first | done | rfl | (first | (go_at_call 32; exact hw'.call (const9_any _)) | (go_at_call 33; exact hw'.call (c2.out _))))); clear hK K; simp only [Act.put, List.setIfInBounds_toArray, List.set_cons_zero, List.set_cons_succ]))
  refine wpQuiet_nil ?_
  intro w2 hc
  have hB := (hS.cls hc).below
  clear hS hc
  go_wp2
  go_ret
  exact ⟨rfl, hB⟩
end Go.Proofs.Ytkfbfgjfdjhjdaa
