/-
  The law CipherMix, walked: for every column of 4 bytes it answers true.
-/
import Derived.Test.YtkfbfgjfdjhjdaaMulP
namespace Go.Proofs.Ytkfbfgjfdjhjdaa
open Go.ChangeShapes Go.WideShapes Go.ChangeAt Go.RowKit

def exA : List UInt8 := [0xdb, 0x13, 0x53, 0x45]
def exB : List UInt8 := [0x8e, 0x4d, 0xa1, 0xbc]
attribute [irreducible] exA exB
attribute [local irreducible] refMix
theorem exA_lit : #[Value.int .u8 219, .int .u8 19, .int .u8 83, .int .u8 69] = bvs exA := by unfold exA; rfl
theorem exB_lit : #[Value.int .u8 142, .int .u8 77, .int .u8 161, .int .u8 188] = bvs exB := by unfold exB; rfl

set_option maxRecDepth 100000 in
set_option maxHeartbeats 1000000 in
theorem cipherMix_any (v : List UInt8) (hv : v.length = 4) (w : World) :
    Calls Try.prog 5 #[.agg (bvs v)] w fun e w' => e = .returned (.bool true) ∧ Below w.heap.size w w' := by
  obtain ⟨M, hM⟩ : ∃ M, M = fun l => byPart l [2, 3, 1, 1] 16 := ⟨_, rfl⟩
  obtain ⟨U, hU⟩ : ∃ U, U = fun l => byPart l [14, 11, 13, 9] 16 := ⟨_, rfl⟩
  have cM : ∀ (l : List UInt8), l.length = 4 → ∀ w, Calls Try.prog 23 #[.agg (bvs l)] w fun e w' => e = .returned (.agg (bvs (M l))) ∧ Below w.heap.size w w' := fun l hl w => by rw [hM]; exact mix_any l hl w
  have cU : ∀ (l : List UInt8), l.length = 4 → ∀ w, Calls Try.prog 25 #[.agg (bvs l)] w fun e w' => e = .returned (.agg (bvs (U l))) ∧ Below w.heap.size w w' := fun l hl w => by rw [hU]; exact unmix_any l hl w
  have lM : ∀ l, (M l).length = 4 := fun l => by rw [hM]; exact byPart_len _ _ _
  have lU : ∀ l, (U l).length = 4 := fun l => by rw [hU]; exact byPart_len _ _ _
  have q1 : (M exA == exB) = true := by rw [hM]; unfold exA exB; simp only [mix_example]; rfl
  have q2 : (M v == refMix v) = true := by rw [hM]; simp only [mix_law hv]; simp
  have q3 : (U (M v) == v) = true := by rw [hM, hU]; simp only [unmix_mix hv]; simp
  have q4 : (M (U v) == v) = true := by rw [hM, hU]; simp only [mix_unmix hv]; simp
  have s0 : csz (bvs v) = 4 := by rw [csz_bvs, hv]
  have s1 : ∀ l, csz (bvs (M l)) = 4 := fun l => by rw [csz_bvs, lM]
  have s2 : ∀ l, csz (bvs (U l)) = 4 := fun l => by rw [csz_bvs, lU]
  have s3 : csz (bvs (refMix v)) = 4 := by unfold refMix; rfl
  have s4 : csz (bvs exB) = 4 := by unfold exB; rfl
  have LM := hid lM; have LU := hid lU; have H := hid hv; have CM := hid cM; have CU := hid cU
  have LA : Hid (exA.length = 4) := by unfold exA; rfl
  clear lM lU hv hM hU cM cU
  have e1 := exA_lit
  have e2 := exB_lit
  go_enter Try.func5, Try.ntmps5
  go_wp2_with fail
  refine (CM.out v H.out _).mono ?_
  rintro e w1 ⟨rfl, hb1⟩
  have hS := (show St w (w.alloc (.cells (bvs v) 28)) [(w.heap.size, bvs v, 28)] from (St.alloc' (St.start w) (by first | rfl | simp))).call hb1
  clear hb1
  obtain ⟨kb0, kc0, kf0, kl0, kn0⟩ := hS.at 0 rfl
  go_wp2_with fail
  have hS2 := hS.alloc (bvs (M v)) 28
  clear kb0 kc0 kf0 kl0 kn0 hS
  generalize w1.alloc (.cells (bvs (M v)) 28) = W at *
  refine region_cls (by kernel_rfl) (by kernel_rfl) ?_
  repeat (first | (refine BigFrame.wpQuiet_skip rfl ?_; simp only [Act.put, List.setIfInBounds_toArray, List.set_cons_zero, List.set_cons_succ]) | (refine BigFrame.wpQuiet_want rfl (fun K hK => ?_); apply Exists.intro; refine ⟨fun w' hw' => ?_, hK _ ?_⟩; (focus (have zS := hS2.cls hw'; obtain ⟨zb0, zc0, zf0, zl0, zn0⟩ := zS.at 0 rfl; obtain ⟨zb1, zc1, zf1, zl1, zn1⟩ := zS.at 1 rfl; clear zS; go_simp; (try (go_bits; go_simp)); first | done | rfl | (first | (go_at_call 23; exact hw'.call (CM.out _ (by first | exact H.out | exact LU.out _ | exact LA) _)) | (go_at_call 25; exact hw'.call (CU.out _ (by first | exact H.out | exact LM.out _) _)) | (go_at_call 24; exact hw'.call (refMix_any _ H.out _))))); clear hK K; simp only [Act.put, List.setIfInBounds_toArray, List.set_cons_zero, List.set_cons_succ]))
  refine wpQuiet_nil ?_
  intro w2 hc
  have hB := (hS2.cls hc).below
  go_wp2
  go_ret
  exact ⟨rfl, hB⟩
end Go.Proofs.Ytkfbfgjfdjhjdaa
