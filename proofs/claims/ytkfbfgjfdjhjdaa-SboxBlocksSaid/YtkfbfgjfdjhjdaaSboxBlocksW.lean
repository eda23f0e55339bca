/-
  The law SboxBlocks, walked: for every block of 16 bytes it answers true. No condition.
-/
import Derived.Test.YtkfbfgjfdjhjdaaSboxTurnsW
namespace Go.Proofs.Ytkfbfgjfdjhjdaa
open Go.ChangeShapes Go.WideShapes Go.ChangeAt Go.RowKit
theorem backMap (l : List UInt8) : (l.map subB).map backB = l := by
  rw [List.map_map]; conv => rhs; rw [← List.map_id l]
  exact List.map_congr_left fun b _ => (turns b).1
theorem subMap (l : List UInt8) : (l.map backB).map subB = l := by
  rw [List.map_map]; conv => rhs; rw [← List.map_id l]
  exact List.map_congr_left fun b _ => (turns b).2.1
theorem backAllSub_any (l : List UInt8) (hl : l.length = 16) (w : World) : Calls Try.prog 36 #[.agg (bvs (l.map subB))] w fun e w' => e = .returned (.agg (bvs l)) ∧ Below w.heap.size w w' := by
  have := backAll_any (l.map subB) (by simpa using hl) w; rw [backMap] at this; exact this
theorem subAllBack_any (l : List UInt8) (hl : l.length = 16) (w : World) : Calls Try.prog 35 #[.agg (bvs (l.map backB))] w fun e w' => e = .returned (.agg (bvs l)) ∧ Below w.heap.size w w' := by
  have := subAll_any (l.map backB) (by simpa using hl) w; rw [subMap] at this; exact this
theorem map_getD (f : UInt8 → UInt8) (l : List UInt8) (k : Nat) (hk : k < l.length) : (l.map f).getD k 0 = f (l.getD k 0) := by simp [hk]
attribute [local irreducible] sboxL subB backB
set_option maxRecDepth 100000 in
set_option maxHeartbeats 2000000 in
theorem sboxBlocks_any (l : List UInt8) (hl : l.length = 16) (w : World) : Calls Try.prog 12 #[.agg (bvs l)] w fun e w' => e = .returned (.bool true) ∧ Below w.heap.size w w' := by
  have s0 : csz (bvs l) = 16 := by rw [csz_bvs, hl]
  have s1 : csz (bvs (l.map subB)) = 16 := by rw [csz_bvs, List.length_map, hl]
  have s2 : csz (bvs (l.map backB)) = 16 := by rw [csz_bvs, List.length_map, hl]
  have hm : ∀ k, k < 16 → (bvs (l.map subB))[k]? = some (.int .u8 ((subB (l.getD k 0)).toNat : Int)) := fun k hk => by
    rw [← map_getD subB l k (by omega)]; exact bvs_get (by rw [List.length_map]; omega)
  have cS := hid (subAll_any l hl)
  have cA := hid (backAllSub_any l hl)
  have cB := hid (backAll_any l hl)
  have cC := hid (subAllBack_any l hl)
  have H := hid hl; clear hl
  generalize l.map subB = m at *
  generalize l.map backB = n at *
  have HM := hid hm; clear hm
  have z := zs16
  go_enter Try.func12, Try.ntmps12
  go_wp2_with fail
  refine (cS.out _).mono ?_
  rintro e w1 ⟨rfl, hb⟩
  have hS := (show St w (w.alloc (.cells (bvs l) 25)) [(w.heap.size, bvs l, 25)] from (St.alloc' (St.start w) (by first | rfl | simp))).call hb
  clear hb
  obtain ⟨kb0, kc0, kf0, kl0, kn0⟩ := hS.at 0 rfl
  go_wp2_with fail
  have hS2 := hS.alloc (bvs m) 25
  clear kb0 kc0 kf0 kl0 kn0 hS
  generalize w1.alloc (.cells (bvs m) 25) = W at *
  go_loopw [4, 5, 9] (fun u4 u5 u9 wr => ∃ k : Nat, k ≤ 16 ∧ u9 = .int .i64 k ∧ St w wr [(w1.heap.size, bvs m, 25), (w.heap.size, bvs l, 25)])
    (fun _ _ i _ => 16 - (intOf i).toNat)
  case atStart => exact ⟨0, by omega, rfl, hS2⟩
  case round =>
    obtain ⟨k, hk, rfl, hS⟩ := hrel
    clear hS2
    by_cases hlt : k < 16
    · have hx := bvs_get (l := l) (k := k) (by rw [H.out]; omega)
      have hy := HM.out k hlt
      generalize l.getD k 0 = x at hx hy
      have hi : (k : Int) < 16 := by omega
      go_wp2_with fail
      refine region_cls (by kernel_rfl) (by kernel_rfl) ?_
      repeat (first | (refine BigFrame.wpQuiet_skip rfl ?_; simp only [Act.put, List.setIfInBounds_toArray, List.set_cons_zero, List.set_cons_succ]) | (refine BigFrame.wpQuiet_want rfl (fun K hK => ?_); apply Exists.intro; refine ⟨fun w' hw' => ?_, hK _ ?_⟩; (focus (have zS := hS.cls hw'; obtain ⟨zb0, zc0, zf0, zl0, zn0⟩ := zS.at 0 rfl; obtain ⟨zb1, zc1, zf1, zl1, zn1⟩ := zS.at 1 rfl; clear zS; go_simp; (try (go_bits; go_simp)); first | done | rfl | (first | (go_at_call 26; exact hw'.call (sub_any _ _))))); clear hK K; simp only [Act.put, List.setIfInBounds_toArray, List.set_cons_zero, List.set_cons_succ]))
      refine wpQuiet_nil ?_
      intro w2 hc
      have hS2 := hS.cls hc
      clear hS hc
      go_wp2
      go_roundw
      case rel => exact ⟨k + 1, by omega, by go_num, hS2⟩
      case measure => simp [intOf]; omega
    · obtain rfl : k = 16 := by omega
      clear hlt hk
      go_wp2_with fail
      refine region_cls (by kernel_rfl) (by kernel_rfl) ?_
      repeat (first | (refine BigFrame.wpQuiet_skip rfl ?_; simp only [Act.put, List.setIfInBounds_toArray, List.set_cons_zero, List.set_cons_succ]) | (refine BigFrame.wpQuiet_want rfl (fun K hK => ?_); apply Exists.intro; refine ⟨fun w' hw' => ?_, hK _ ?_⟩; (focus (have zS := hS.cls hw'; obtain ⟨zb0, zc0, zf0, zl0, zn0⟩ := zS.at 0 rfl; obtain ⟨zb1, zc1, zf1, zl1, zn1⟩ := zS.at 1 rfl; clear zS; go_simp; (try (go_bits; go_simp)); first | done | rfl | (first | (go_at_call 26; exact hw'.call (sub0_any _)) | (go_at_call 36; first | (with_reducible exact hw'.call (cA.out _)) | (with_reducible exact hw'.call (cB.out _))) | (go_at_call 35; exact hw'.call (cC.out _))))); clear hK K; simp only [Act.put, List.setIfInBounds_toArray, List.set_cons_zero, List.set_cons_succ]))
      refine wpQuiet_nil ?_
      intro w2 hc
      have hB := (hS.cls hc).below
      go_wp2
      go_ret
      exact ⟨rfl, hB⟩
end Go.Proofs.Ytkfbfgjfdjhjdaa
