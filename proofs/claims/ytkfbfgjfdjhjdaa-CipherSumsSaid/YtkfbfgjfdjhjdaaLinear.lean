/-
  The law CipherSums, walked: shifting rows and mixing columns keep sums, both ways. No condition.
-/
import Derived.Test.YtkfbfgjfdjhjdaaSums
namespace Go.Proofs.Ytkfbfgjfdjhjdaa
open Go.ChangeShapes Go.WideShapes Go.ChangeAt Go.RowKit

theorem shift_xor {a b : List UInt8} (ha : a.length = 16) (hb : b.length = 16) : shPart (xorL a b) 16 = xorL (shPart a 16) (shPart b 16) := by
  obtain ⟨a0, a1, a2, a3, a4, a5, a6, a7, a8, a9, a10, a11, a12, a13, a14, a15, rfl⟩ := len16 ha
  obtain ⟨b0, b1, b2, b3, b4, b5, b6, b7, b8, b9, b10, b11, b12, b13, b14, b15, rfl⟩ := len16 hb
  rw [shift_is rfl, shift_is rfl]
  simp only [xorL, List.zipWith_cons_cons, List.zipWith_nil_right]
  rw [shift_is rfl]
theorem unshift_xor {a b : List UInt8} (ha : a.length = 16) (hb : b.length = 16) : unPart (xorL a b) 16 = xorL (unPart a 16) (unPart b 16) := by
  obtain ⟨a0, a1, a2, a3, a4, a5, a6, a7, a8, a9, a10, a11, a12, a13, a14, a15, rfl⟩ := len16 ha
  obtain ⟨b0, b1, b2, b3, b4, b5, b6, b7, b8, b9, b10, b11, b12, b13, b14, b15, rfl⟩ := len16 hb
  rw [unshift_is rfl, unshift_is rfl]
  simp only [xorL, List.zipWith_cons_cons, List.zipWith_nil_right]
  rw [unshift_is rfl]
def one4 : List UInt8 := [1, 0, 0, 0]
def col4 : List UInt8 := [2, 1, 1, 3]
theorem one4_lit : #[Value.int .u8 1, .int .u8 0, .int .u8 0, .int .u8 0] = bvs one4 := rfl
theorem col4_lit : #[Value.int .u8 2, .int .u8 1, .int .u8 1, .int .u8 3] = bvs col4 := rfl
theorem one4_mix : byPart one4 [2, 3, 1, 1] 16 = col4 := by unfold one4 col4; rw [by_is]; decide +kernel
theorem one4_len : one4.length = 4 := rfl
theorem col4_len : col4.length = 4 := rfl
attribute [irreducible] one4 col4
attribute [local irreducible] xorL

set_option maxRecDepth 100000 in
set_option maxHeartbeats 4000000 in
theorem linear_any (a b v u : List UInt8) (ha : a.length = 16) (hb : b.length = 16) (hv : v.length = 4) (hu : u.length = 4) (w : World) :
    Calls Try.prog 34 #[.agg (bvs a), .agg (bvs b), .agg (bvs v), .agg (bvs u)] w fun e w' => e = .returned (.bool true) ∧ Below w.heap.size w w' := by
  obtain ⟨M, hM⟩ : ∃ M, M = fun l => byPart l [2, 3, 1, 1] 16 := ⟨_, rfl⟩
  obtain ⟨U, hU⟩ : ∃ U, U = fun l => byPart l [14, 11, 13, 9] 16 := ⟨_, rfl⟩
  obtain ⟨S, hSh⟩ : ∃ S, S = fun l => shPart l 16 := ⟨_, rfl⟩
  obtain ⟨R, hUn⟩ : ∃ R, R = fun l => unPart l 16 := ⟨_, rfl⟩
  have cM : ∀ (l : List UInt8), l.length = 4 → ∀ w, Calls Try.prog 23 #[.agg (bvs l)] w fun e w' => e = .returned (.agg (bvs (M l))) ∧ Below w.heap.size w w' := fun l hl w => by rw [hM]; exact mix_any l hl w
  have cU : ∀ (l : List UInt8), l.length = 4 → ∀ w, Calls Try.prog 25 #[.agg (bvs l)] w fun e w' => e = .returned (.agg (bvs (U l))) ∧ Below w.heap.size w w' := fun l hl w => by rw [hU]; exact unmix_any l hl w
  have cS : ∀ (l : List UInt8), l.length = 16 → ∀ w, Calls Try.prog 20 #[.agg (bvs l)] w fun e w' => e = .returned (.agg (bvs (S l))) ∧ Below w.heap.size w w' := fun l hl w => by rw [hSh]; exact shift_any l hl w
  have cR : ∀ (l : List UInt8), l.length = 16 → ∀ w, Calls Try.prog 22 #[.agg (bvs l)] w fun e w' => e = .returned (.agg (bvs (R l))) ∧ Below w.heap.size w w' := fun l hl w => by rw [hUn]; exact unshift_any l hl w
  have lM : ∀ l, (M l).length = 4 := fun l => by rw [hM]; exact byPart_len _ _ _
  have lU : ∀ l, (U l).length = 4 := fun l => by rw [hU]; exact byPart_len _ _ _
  have lS : ∀ l, (S l).length = 16 := fun l => by rw [hSh]; exact shPart_len _ _
  have lR : ∀ l, (R l).length = 16 := fun l => by rw [hUn]; exact unPart_len _ _
  have lx := xorL_len a b 16 ha hb
  have ly := xorL_len v u 4 hv hu
  have q0 : (M one4 == col4) = true := by rw [hM]; simp only [one4_mix]; simp
  have q1 : (R (S a) == a) = true := by rw [hSh, hUn]; simp only [unshift_shift ha]; simp
  have q2 : (S (xorL a b) == xorL (S a) (S b)) = true := by rw [hSh]; simp only [shift_xor ha hb]; simp
  have q3 : (R (xorL a b) == xorL (R a) (R b)) = true := by rw [hUn]; simp only [unshift_xor ha hb]; simp
  have q4 : (M (xorL v u) == xorL (M v) (M u)) = true := by rw [hM]; simp only [by_xor hv hu (show ([2, 3, 1, 1] : List UInt8).length = 4 from rfl)]; simp
  have q5 : (U (xorL v u) == xorL (U v) (U u)) = true := by rw [hU]; simp only [by_xor hv hu (show ([14, 11, 13, 9] : List UInt8).length = 4 from rfl)]; simp
  have s0 : csz (bvs a) = 16 := by rw [csz_bvs, ha]
  have s1 : csz (bvs b) = 16 := by rw [csz_bvs, hb]
  have s2 : csz (bvs v) = 4 := by rw [csz_bvs, hv]
  have s3 : csz (bvs u) = 4 := by rw [csz_bvs, hu]
  have s4 : ∀ l, csz (bvs (M l)) = 4 := fun l => by rw [csz_bvs, lM]
  have s5 : ∀ l, csz (bvs (U l)) = 4 := fun l => by rw [csz_bvs, lU]
  have s6 : ∀ l, csz (bvs (S l)) = 16 := fun l => by rw [csz_bvs, lS]
  have s7 : ∀ l, csz (bvs (R l)) = 16 := fun l => by rw [csz_bvs, lR]
  have s8 : csz (bvs (xorL (S a) (S b))) = 16 := by rw [csz_bvs, xorL_len _ _ 16 (lS a) (lS b)]
  have s9 : csz (bvs (xorL (R a) (R b))) = 16 := by rw [csz_bvs, xorL_len _ _ 16 (lR a) (lR b)]
  have s10 : csz (bvs (xorL (M v) (M u))) = 4 := by rw [csz_bvs, xorL_len _ _ 4 (lM v) (lM u)]
  have s11 : csz (bvs (xorL (U v) (U u))) = 4 := by rw [csz_bvs, xorL_len _ _ 4 (lU v) (lU u)]
  have s12 : csz (bvs col4) = 4 := by rw [csz_bvs, col4_len]
  have HA := hid ha; have HB := hid hb; have HV := hid hv; have HU := hid hu; have LX := hid lx; have LY := hid ly
  have LM := hid lM; have LU := hid lU; have LS := hid lS; have LR := hid lR; have CM := hid cM; have CU := hid cU; have CS := hid cS; have CR := hid cR
  clear ha hb hv hu lx ly lM lU lS lR cM cU cS cR hM hU hSh hUn
  have e1 := one4_lit
  have e2 := col4_lit
  go_enter Try.func34, Try.ntmps34
  go_wp2_with fail
  have hS : St w ((((w.alloc (.cells (bvs a) 25)).alloc (.cells (bvs b) 25)).alloc (.cells (bvs v) 28)).alloc (.cells (bvs u) 28)) [(w.heap.size + 1 + 1 + 1, bvs u, 28), (w.heap.size + 1 + 1, bvs v, 28), (w.heap.size + 1, bvs b, 25), (w.heap.size, bvs a, 25)] := (St.alloc' (St.alloc' (St.alloc' (St.alloc' (St.start w) (by simp)) (by simp)) (by simp)) (by simp))
  generalize (((w.alloc (.cells (bvs a) 25)).alloc (.cells (bvs b) 25)).alloc (.cells (bvs v) 28)).alloc (.cells (bvs u) 28) = W at *
  refine region_cls (by kernel_rfl) (by kernel_rfl) ?_
  repeat (first | (refine BigFrame.wpQuiet_skip rfl ?_; simp only [Act.put, List.setIfInBounds_toArray, List.set_cons_zero, List.set_cons_succ]) | (refine BigFrame.wpQuiet_want rfl (fun K hK => ?_); apply Exists.intro; refine ⟨fun w' hw' => ?_, hK _ ?_⟩; (focus (have zS := hS.cls hw'; obtain ⟨zb0, zc0, zf0, zl0, zn0⟩ := zS.at 3 rfl; clear zS; go_simp; (try (go_bits; go_simp)); first | done | rfl | (first | (go_at_call 23; exact hw'.call (CM.out _ one4_len _)) | (go_at_call 20; exact hw'.call (CS.out _ HA.out _)) | (go_at_call 22; exact hw'.call (CR.out _ (LS.out _) _))))); clear hK K; simp only [Act.put, List.setIfInBounds_toArray, List.set_cons_zero, List.set_cons_succ]))
  refine wpQuiet_nil ?_
  intro w2 hc
  have hS2 := hS.cls hc
  clear hS hc
  go_wp2_with fail
  refine region_cls (by kernel_rfl) (by kernel_rfl) ?_
  repeat (first | (refine BigFrame.wpQuiet_skip rfl ?_; simp only [Act.put, List.setIfInBounds_toArray, List.set_cons_zero, List.set_cons_succ]) | (refine BigFrame.wpQuiet_want rfl (fun K hK => ?_); apply Exists.intro; refine ⟨fun w' hw' => ?_, hK _ ?_⟩; (focus (have zS := hS2.cls hw'; obtain ⟨zb0, zc0, zf0, zl0, zn0⟩ := zS.at 0 rfl; obtain ⟨zb1, zc1, zf1, zl1, zn1⟩ := zS.at 1 rfl; obtain ⟨zb2, zc2, zf2, zl2, zn2⟩ := zS.at 2 rfl; obtain ⟨zb3, zc3, zf3, zl3, zn3⟩ := zS.at 3 rfl; clear zS; go_simp; (try (go_bits; go_simp)); first | done | rfl | (first | (go_at_call 23; exact hw'.call (CM.out _ (by first | exact HV.out | exact HU.out | exact LY.out) _)) | (go_at_call 25; exact hw'.call (CU.out _ (by first | exact HV.out | exact HU.out | exact LY.out) _)) | (go_at_call 20; exact hw'.call (CS.out _ (by first | exact HA.out | exact HB.out | exact LX.out) _)) | (go_at_call 22; exact hw'.call (CR.out _ (by first | exact HA.out | exact HB.out | exact LX.out) _)) | (go_at_call 58; exact hw'.call (sum16_any _ _ (by first | exact HA.out | exact LS.out _ | exact LR.out _) (by first | exact HB.out | exact LS.out _ | exact LR.out _) _)) | (go_at_call 59; exact hw'.call (sum4_any _ _ (by first | exact HV.out | exact LM.out _ | exact LU.out _) (by first | exact HU.out | exact LM.out _ | exact LU.out _) _))))); clear hK K; simp only [Act.put, List.setIfInBounds_toArray, List.set_cons_zero, List.set_cons_succ]))
  refine wpQuiet_nil ?_
  intro w3 hc
  have hB := (hS2.cls hc).below
  go_wp2
  go_ret
  exact ⟨rfl, hB⟩
end Go.Proofs.Ytkfbfgjfdjhjdaa
