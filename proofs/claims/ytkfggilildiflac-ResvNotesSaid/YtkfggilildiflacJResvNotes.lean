/-
  The law ResvNotes: for all reservations it answers true. No condition.
-/
import Derived.Test.YtkfggilildiflacRows
import Derived.Laws.Small
import Derived.Test.YtkfggilildiflacJL0

namespace Go.Proofs.Ytkfggilildiflac
open Go.ChangeShapes Go.WideShapes Go.ChangeAt Go.RowKit
attribute [local irreducible] wpList wpListIn Oper.quietAt wpM
theorem is_two (n : Int) (w0 : World) : Calls Try.prog 17 #[errV n, .int .i64 n] w0 fun e w' => e = .returned (.bool true) ∧ Below w0.heap.size w0 w' := by
  have hS := St.start w0
  go_enter Try.func17, Try.ntmps17
  repeat' (first | ((with_reducible refine Ad ?_); first | ((first | refine Bn Aa ?_ | refine Bm Aa ?_ | refine Az Aa ?_ | refine Be Aa ?_ | refine Bg Aa ?_ | refine Bv Aa (fun hc => ?_) (fun hc => ?_)) <;> refine Ac ?_) | (refine Cb Aa Ab hS (num_errV _ _) ?_; clear hS; intro w hS; refine Ac ?_)) | ((fail_if_success (with_reducible refine Ad ?_)); first | go_step | go_step3 | rw [Exit.noGoto_normal] | rw [Exit.noGoto_ret] | rw [Exit.noGoto_exit]))
  go_ret
  exact ⟨rfl, hS.below⟩
theorem sameRef_x (l : List Rg) (va vb : Value) (h t g : Int) (s : Bool) (w0 : World) (hva : RegsAt w0 va l) (hvb : RegsAt w0 vb l) (hm : l.length ≤ 1000000) :
    Calls Try.prog 12 #[.agg #[va, .int .i64 h, .int .i64 t, .bool s, .int .i64 g], .agg #[vb, .int .i64 h, .int .i64 t, .bool s, .int .i64 g]] w0 fun e w' => e = .returned (.bool true) ∧ Below w0.heap.size w0 w' :=
  sameRef_any (B := true) l l va vb h t g h t g s s (by simp) w0 hva hvb hm
theorem nobody_x (w0 : World) : Calls Try.prog 12 #[.agg #[.slice none 0 0, .int .i64 (-1), .int .i64 0, .bool false, .int .i64 0], .agg #[.slice none 0 0, .int .i64 (-1), .int .i64 0, .bool false, .int .i64 0]] w0 fun e w' => e = .returned (.bool true) ∧ Below w0.heap.size w0 w' :=
  sameRef_x [] _ _ _ _ _ _ _ (regsAt_nil w0) (regsAt_nil w0) (by decide)
set_option maxRecDepth 100000 in
set_option maxHeartbeats 16000000 in
theorem notes_good_false (l : List Rg) (h t g : Int) (hm : l.length ≤ 100) (hG : goodR ⟨l, h, t, false, g⟩) (ih : i64R h) (ig : i64R g) (hi : ∀ y ∈ l, i64R y.1 ∧ i64R y.2) (v : Value) (w0 : World) (hv : RegsAt w0 v l) :
    Calls Try.prog 8 #[.agg #[v, .int .i64 h, .int .i64 t, .bool false, .int .i64 g]] w0 fun e w' => e = .returned (.bool true) ∧ Below w0.heap.size w0 w' := by
  obtain ⟨p, c, rfl, hc⟩ := hv.slice
  have hS := St.start w0
  have hN1 := fun (w : World) hw => note_false l h t g hG (.slice p l.length c) w hw
  have hN2 := fun (w : World) hw => noteRef_false l h t g hG (.slice p l.length c) w hw
  have hT := fun (w : World) => takeR_good l h t g false hG ih ig hi w
  have lX := cellR_len hG
  obtain ⟨X, hX⟩ : ∃ X, cellR ⟨l, h, t, false, g⟩ = X := ⟨_, rfl⟩
  rw [hX] at hN1 hN2 lX hT
  clear hX
  have s1 : csz (bvs X) = 128 := by rw [Ce, lX]
  go_enter Try.func8, Try.ntmps8
  repeat' (first | ((with_reducible refine Ad ?_); first | ((first | refine Bn Aa ?_ | refine Bm Aa ?_ | refine Az Aa ?_ | refine Bf Aa Ab hS ?_ | refine Bi Aa Ab hS ?_ | refine Bs Aa ?_ | refine Ao Aa ?_ | refine Be Aa ?_ | refine Bg Aa ?_ | refine Bv Aa (fun hc => ?_) (fun hc => ?_) | refine Ay Aa ?_ | refine Am Aa ?_ | refine Aw Aa ?_ | refine Ap Aa ?_ | refine Ah Aa ?_ | refine Aj Aa ?_ | refine g_neqSlNil Aa ?_ | refine Bo Aa ?_ | refine Bu Aa ?_) <;> refine Ac ?_) | ((first | refine Bh Aa Ab hS ?_ | refine Bt Aa Ab hS ?_); clear hS; intro b w hS; refine Ac ?_) | ((first | refine Au Aa Ab hS ?_ | refine Bb Aa Ab hS ?_); clear hS; intro w hS; refine Ac ?_) | (refine Cb Aa Ab hS (alive_any _) ?_; clear hS; intro w hS; refine Ac ?_) | (refine Cb Aa Ab hS (hN1 _ (hv.below hS.below)) ?_; clear hS; intro w hS; refine Ac ?_) | (refine Cb Aa Ab hS (hN2 _ (hv.below hS.below)) ?_; clear hS; intro w hS; refine Ac ?_) | (refine Stp.go Aa (by rfl) (by rfl) (r_neA (n := 128) (by rfl) (by rfl) (by rfl) (by kernel_rfl) (by kernel_rfl) lX lX (show (!(X == X)) = false by simp)) ?_; refine Ac ?_) | (refine Cb Aa Ab hS (is_two 2 _) ?_; clear hS; intro w hS; refine Ac ?_) | (refine Cb Aa Ab hS (start_off l h t g _ _ (hv.below hS.below)) ?_; clear hS; intro w hS; refine Ac ?_)) | ((fail_if_success (with_reducible refine Ad ?_)); first | go_step | go_step3 | rw [Exit.noGoto_normal] | rw [Exit.noGoto_ret] | rw [Exit.noGoto_exit]))
  refine Cd 19 (by kernel_rfl) (by kernel_rfl) ?_
  dsimp only [List.take, List.drop]
  iterate 19 (first | (refine Dd (fun _ => rfl) ?_; simp only [Act.put, List.setIfInBounds_toArray, List.set_cons_zero, List.set_cons_succ]) | (refine Cr rfl (fun _ => rfl) _ (fun w => r_alloc (a := ⟨#[], []⟩) rfl (by infer_instance)) ?_; simp only [Act.put, List.setIfInBounds_toArray, List.set_cons_zero, List.set_cons_succ]) | (refine Cm rfl (fun _ => rfl) (fun K hK => ?_); apply Exists.intro; apply Exists.intro; apply Exists.intro; apply Exists.intro; refine ⟨fun pB w' hw' hF => ?_, hK _ _ ?_⟩; (focus (exact Cg (by rfl) (by rfl) (by infer_instance) (by rfl) (by repeat (first | exact (fun _ h => absurd h List.not_mem_nil) | refine List.forall_mem_cons.2 ⟨by first | rfl | (simp only [Value.cells]; first | rfl | omega), ?_⟩)) (by (try conv => lhs; simp only [List.flatMap_cons, List.flatMap_nil, Value.cells, List.append_nil, List.cons_append, List.nil_append]); first | done | rfl) (by decide) (by decide))); clear hK K; simp only [Act.put, List.setIfInBounds_toArray, List.set_cons_zero, List.set_cons_succ]) | (refine Cx (fun _ => rfl) (fun K hK => ?_); apply Exists.intro; refine ⟨fun pB w' hw' hF => ?_, hK _ _ ?_⟩; (focus (have hZ := (Ab).call hS hw'; first | exact (Eb (nobodyRef_any _)) | exact (Eb (nobody_x _)) | exact Dv | exact Cz | exact Dk Ab hZ | exact Dl Ab hZ | exact Ci | exact Cf | exact Dz | exact Dx | exact Co | exact Dy | exact Dw | exact q_mul | exact q_quo | exact q_rem | exact Dn | exact Dm | exact Dc | exact Cp | exact Cw | exact Cq | exact Ch | exact Db | exact Cy | exact Cj | exact q_neqSlNil | exact Cc | exact Cl | exact Du | exact Ds | exact Ea | exact Dj | exact Da | exact Ck | exact Dg | exact Df | exact Cn)); clear hK K; simp only [Act.put, List.setIfInBounds_toArray, List.set_cons_zero, List.set_cons_succ]))
  refine Di ?_
  intro pB w hcq hfq hnq
  replace hS := (Ab).news hS hcq _ (by first | decide | simp) hfq hnq
  first | simp only [List.map_nil, List.nil_append] at hS | simp only [List.map_cons, List.map_nil, List.cons_append, List.nil_append] at hS
  clear hcq hfq hnq
  try dsimp only
  repeat' (first | ((with_reducible refine Ad ?_); first | ((first | refine Bn Aa ?_ | refine Bm Aa ?_ | refine Az Aa ?_ | refine Bf Aa Ab hS ?_ | refine Bi Aa Ab hS ?_ | refine Bs Aa ?_ | refine Ao Aa ?_ | refine Be Aa ?_ | refine Bg Aa ?_ | refine Bv Aa (fun hc => ?_) (fun hc => ?_) | refine Ay Aa ?_ | refine Am Aa ?_ | refine Aw Aa ?_ | refine Ap Aa ?_ | refine Ah Aa ?_ | refine Aj Aa ?_ | refine g_neqSlNil Aa ?_ | refine Bo Aa ?_ | refine Bu Aa ?_) <;> refine Ac ?_) | ((first | refine Bh Aa Ab hS ?_ | refine Bt Aa Ab hS ?_); clear hS; intro b w hS; refine Ac ?_) | ((first | refine Au Aa Ab hS ?_ | refine Bb Aa Ab hS ?_); clear hS; intro w hS; refine Ac ?_)) | ((fail_if_success (with_reducible refine Ad ?_)); first | go_step | go_step3 | rw [Exit.noGoto_normal] | rw [Exit.noGoto_ret] | rw [Exit.noGoto_exit]))
  refine s_call Aa (by rfl) (by rfl) (by rfl) (by rfl) (by rfl) (by infer_instance) (hT _) ?_
  rintro e w1 ⟨sv3, rfl, ho, hB⟩
  obtain ⟨p3, c3, rfl⟩ := ho.slice
  refine ⟨_, rfl, ?_⟩
  refine Ac ?_
  obtain ⟨Lr3, hR3, hS2⟩ := ho.join hS hB
  simp only [List.cons_append] at hS2
  replace hS := hS2
  clear hS2 ho hB
  repeat' (first | ((with_reducible refine Ad ?_); first | ((first | refine Bn Aa ?_ | refine Bm Aa ?_ | refine Az Aa ?_ | refine Bf Aa Ab hS ?_ | refine Bi Aa Ab hS ?_ | refine Bs Aa ?_ | refine Ao Aa ?_ | refine Be Aa ?_ | refine Bg Aa ?_ | refine Bv Aa (fun hc => ?_) (fun hc => ?_) | refine Ay Aa ?_ | refine Am Aa ?_ | refine Aw Aa ?_ | refine Ap Aa ?_ | refine Ah Aa ?_ | refine Aj Aa ?_ | refine g_neqSlNil Aa ?_ | refine Bo Aa ?_ | refine Bu Aa ?_) <;> refine Ac ?_) | ((first | refine Bh Aa Ab hS ?_ | refine Bt Aa Ab hS ?_); clear hS; intro b w hS; refine Ac ?_) | ((first | refine Au Aa Ab hS ?_ | refine Bb Aa Ab hS ?_); clear hS; intro w hS; refine Ac ?_) | (refine Cb Aa Ab hS (sameRef_x l _ _ h t g false _ (hR3.inn hS (by intro x hx; simp [hx])) (hv.below hS.below) (by omega)) ?_; clear hS; intro w hS; refine Ac ?_) | (refine Cb Aa Ab hS (same_same l _ _ h t g false _ (hR3.inn hS (by intro x hx; simp [hx])) (hv.below hS.below) (by omega)) ?_; clear hS; intro w hS; refine Ac ?_)) | ((fail_if_success (with_reducible refine Ad ?_)); first | go_step | go_step3 | rw [Exit.noGoto_normal] | rw [Exit.noGoto_ret] | rw [Exit.noGoto_exit]))
  go_ret
  exact ⟨rfl, hS.below⟩
set_option maxRecDepth 100000 in
set_option maxHeartbeats 16000000 in
theorem notes_good_true (l : List Rg) (h t g : Int) (hm : l.length ≤ 100) (hG : goodR ⟨l, h, t, true, g⟩) (ih : i64R h) (ig : i64R g) (hi : ∀ y ∈ l, i64R y.1 ∧ i64R y.2) (v : Value) (w0 : World) (hv : RegsAt w0 v l) :
    Calls Try.prog 8 #[.agg #[v, .int .i64 h, .int .i64 t, .bool true, .int .i64 g]] w0 fun e w' => e = .returned (.bool true) ∧ Below w0.heap.size w0 w' := by
  obtain ⟨p, c, rfl, hc⟩ := hv.slice
  have hS := St.start w0
  have hN1 := fun (w : World) hw => note_true l h t g hG (.slice p l.length c) w hw
  have hN2 := fun (w : World) hw => noteRef_true l h t g hG (.slice p l.length c) w hw
  have hT := fun (w : World) => takeR_good l h t g true hG ih ig hi w
  have lX := cellR_len hG
  obtain ⟨X, hX⟩ : ∃ X, cellR ⟨l, h, t, true, g⟩ = X := ⟨_, rfl⟩
  rw [hX] at hN1 hN2 lX hT
  clear hX
  have s1 : csz (bvs X) = 128 := by rw [Ce, lX]
  go_enter Try.func8, Try.ntmps8
  repeat' (first | ((with_reducible refine Ad ?_); first | ((first | refine Bn Aa ?_ | refine Bm Aa ?_ | refine Az Aa ?_ | refine Bf Aa Ab hS ?_ | refine Bi Aa Ab hS ?_ | refine Bs Aa ?_ | refine Ao Aa ?_ | refine Be Aa ?_ | refine Bg Aa ?_ | refine Bv Aa (fun hc => ?_) (fun hc => ?_) | refine Ay Aa ?_ | refine Am Aa ?_ | refine Aw Aa ?_ | refine Ap Aa ?_ | refine Ah Aa ?_ | refine Aj Aa ?_ | refine g_neqSlNil Aa ?_ | refine Bo Aa ?_ | refine Bu Aa ?_) <;> refine Ac ?_) | ((first | refine Bh Aa Ab hS ?_ | refine Bt Aa Ab hS ?_); clear hS; intro b w hS; refine Ac ?_) | ((first | refine Au Aa Ab hS ?_ | refine Bb Aa Ab hS ?_); clear hS; intro w hS; refine Ac ?_) | (refine Cb Aa Ab hS (alive_any _) ?_; clear hS; intro w hS; refine Ac ?_) | (refine Cb Aa Ab hS (hN1 _ (hv.below hS.below)) ?_; clear hS; intro w hS; refine Ac ?_) | (refine Cb Aa Ab hS (hN2 _ (hv.below hS.below)) ?_; clear hS; intro w hS; refine Ac ?_) | (refine Stp.go Aa (by rfl) (by rfl) (r_neA (n := 128) (by rfl) (by rfl) (by rfl) (by kernel_rfl) (by kernel_rfl) lX lX (show (!(X == X)) = false by simp)) ?_; refine Ac ?_) | (refine Cb Aa Ab hS (is_two 2 _) ?_; clear hS; intro w hS; refine Ac ?_)) | ((fail_if_success (with_reducible refine Ad ?_)); first | go_step | go_step3 | rw [Exit.noGoto_normal] | rw [Exit.noGoto_ret] | rw [Exit.noGoto_exit]))
  refine s_call Aa (by rfl) (by rfl) (by rfl) (by rfl) (by rfl) (by infer_instance) (start_on l h t g _ _ (hv.below hS.below) (by omega)) ?_
  rintro e w1 ⟨sv, rfl, ho, hB⟩
  obtain ⟨p2, c2, rfl⟩ := ho.slice
  refine ⟨_, rfl, ?_⟩
  refine Ac ?_
  obtain ⟨Lr, hR, hS2⟩ := ho.join hS hB
  simp only [List.cons_append, List.nil_append] at hS2
  replace hS := hS2
  clear hS2 ho hB
  repeat' (first | ((with_reducible refine Ad ?_); first | ((first | refine Bn Aa ?_ | refine Bm Aa ?_ | refine Az Aa ?_ | refine Bf Aa Ab hS ?_ | refine Bi Aa Ab hS ?_ | refine Bs Aa ?_ | refine Ao Aa ?_ | refine Be Aa ?_ | refine Bg Aa ?_ | refine Bv Aa (fun hc => ?_) (fun hc => ?_) | refine Ay Aa ?_ | refine Am Aa ?_ | refine Aw Aa ?_ | refine Ap Aa ?_ | refine Ah Aa ?_ | refine Aj Aa ?_ | refine g_neqSlNil Aa ?_ | refine Bo Aa ?_ | refine Bu Aa ?_) <;> refine Ac ?_) | ((first | refine Bh Aa Ab hS ?_ | refine Bt Aa Ab hS ?_); clear hS; intro b w hS; refine Ac ?_) | ((first | refine Au Aa Ab hS ?_ | refine Bb Aa Ab hS ?_); clear hS; intro w hS; refine Ac ?_)) | ((fail_if_success (with_reducible refine Ad ?_)); first | go_step | go_step3 | rw [Exit.noGoto_normal] | rw [Exit.noGoto_ret] | rw [Exit.noGoto_exit]))
  refine Cd 19 (by kernel_rfl) (by kernel_rfl) ?_
  dsimp only [List.take, List.drop]
  iterate 19 (first | (refine Dd (fun _ => rfl) ?_; simp only [Act.put, List.setIfInBounds_toArray, List.set_cons_zero, List.set_cons_succ]) | (refine Cr rfl (fun _ => rfl) _ (fun w => r_alloc (a := ⟨#[], []⟩) rfl (by infer_instance)) ?_; simp only [Act.put, List.setIfInBounds_toArray, List.set_cons_zero, List.set_cons_succ]) | (refine Cm rfl (fun _ => rfl) (fun K hK => ?_); apply Exists.intro; apply Exists.intro; apply Exists.intro; apply Exists.intro; refine ⟨fun pB w' hw' hF => ?_, hK _ _ ?_⟩; (focus (exact Cg (by rfl) (by rfl) (by infer_instance) (by rfl) (by repeat (first | exact (fun _ h => absurd h List.not_mem_nil) | refine List.forall_mem_cons.2 ⟨by first | rfl | (simp only [Value.cells]; first | rfl | omega), ?_⟩)) (by (try conv => lhs; simp only [List.flatMap_cons, List.flatMap_nil, Value.cells, List.append_nil, List.cons_append, List.nil_append]); first | done | rfl) (by decide) (by decide))); clear hK K; simp only [Act.put, List.setIfInBounds_toArray, List.set_cons_zero, List.set_cons_succ]) | (refine Cx (fun _ => rfl) (fun K hK => ?_); apply Exists.intro; refine ⟨fun pB w' hw' hF => ?_, hK _ _ ?_⟩; (focus (have hZ := (Ab).call hS hw'; first | exact (Eb (sameRef_x l _ _ h t g true _ (hR.inn hZ (by intro x hx; simp [hx])) (hv.below hZ.below) (by omega))) | exact Dv | exact Cz | exact Dk Ab hZ | exact Dl Ab hZ | exact Ci | exact Cf | exact Dz | exact Dx | exact Co | exact Dy | exact Dw | exact q_mul | exact q_quo | exact q_rem | exact Dn | exact Dm | exact Dc | exact Cp | exact Cw | exact Cq | exact Ch | exact Db | exact Cy | exact Cj | exact q_neqSlNil | exact Cc | exact Cl | exact Du | exact Ds | exact Ea | exact Dj | exact Da | exact Ck | exact Dg | exact Df | exact Cn)); clear hK K; simp only [Act.put, List.setIfInBounds_toArray, List.set_cons_zero, List.set_cons_succ]))
  refine Di ?_
  intro pB w hcq hfq hnq
  replace hS := (Ab).news hS hcq _ (by first | decide | simp) hfq hnq
  first | simp only [List.map_nil, List.nil_append] at hS | simp only [List.map_cons, List.map_nil, List.cons_append, List.nil_append] at hS
  clear hcq hfq hnq
  try dsimp only
  repeat' (first | ((with_reducible refine Ad ?_); first | ((first | refine Bn Aa ?_ | refine Bm Aa ?_ | refine Az Aa ?_ | refine Bf Aa Ab hS ?_ | refine Bi Aa Ab hS ?_ | refine Bs Aa ?_ | refine Ao Aa ?_ | refine Be Aa ?_ | refine Bg Aa ?_ | refine Bv Aa (fun hc => ?_) (fun hc => ?_) | refine Ay Aa ?_ | refine Am Aa ?_ | refine Aw Aa ?_ | refine Ap Aa ?_ | refine Ah Aa ?_ | refine Aj Aa ?_ | refine g_neqSlNil Aa ?_ | refine Bo Aa ?_ | refine Bu Aa ?_) <;> refine Ac ?_) | ((first | refine Bh Aa Ab hS ?_ | refine Bt Aa Ab hS ?_); clear hS; intro b w hS; refine Ac ?_) | ((first | refine Au Aa Ab hS ?_ | refine Bb Aa Ab hS ?_); clear hS; intro w hS; refine Ac ?_)) | ((fail_if_success (with_reducible refine Ad ?_)); first | go_step | go_step3 | rw [Exit.noGoto_normal] | rw [Exit.noGoto_ret] | rw [Exit.noGoto_exit]))
  refine s_call Aa (by rfl) (by rfl) (by rfl) (by rfl) (by rfl) (by infer_instance) (hT _) ?_
  rintro e w1 ⟨sv3, rfl, ho, hB⟩
  obtain ⟨p3, c3, rfl⟩ := ho.slice
  refine ⟨_, rfl, ?_⟩
  refine Ac ?_
  obtain ⟨Lr3, hR3, hS2⟩ := ho.join hS hB
  simp only [List.cons_append, List.nil_append] at hS2
  replace hS := hS2
  clear hS2 ho hB
  repeat' (first | ((with_reducible refine Ad ?_); first | ((first | refine Bn Aa ?_ | refine Bm Aa ?_ | refine Az Aa ?_ | refine Bf Aa Ab hS ?_ | refine Bi Aa Ab hS ?_ | refine Bs Aa ?_ | refine Ao Aa ?_ | refine Be Aa ?_ | refine Bg Aa ?_ | refine Bv Aa (fun hc => ?_) (fun hc => ?_) | refine Ay Aa ?_ | refine Am Aa ?_ | refine Aw Aa ?_ | refine Ap Aa ?_ | refine Ah Aa ?_ | refine Aj Aa ?_ | refine g_neqSlNil Aa ?_ | refine Bo Aa ?_ | refine Bu Aa ?_) <;> refine Ac ?_) | ((first | refine Bh Aa Ab hS ?_ | refine Bt Aa Ab hS ?_); clear hS; intro b w hS; refine Ac ?_) | ((first | refine Au Aa Ab hS ?_ | refine Bb Aa Ab hS ?_); clear hS; intro w hS; refine Ac ?_) | (refine Cb Aa Ab hS (sameRef_x l _ _ h t g true _ (hR3.inn hS (by intro x hx; simp [hx])) (hv.below hS.below) (by omega)) ?_; clear hS; intro w hS; refine Ac ?_) | (refine Cb Aa Ab hS (same_same l _ _ h t g true _ (hR3.inn hS (by intro x hx; simp [hx])) (hv.below hS.below) (by omega)) ?_; clear hS; intro w hS; refine Ac ?_)) | ((fail_if_success (with_reducible refine Ad ?_)); first | go_step | go_step3 | rw [Exit.noGoto_normal] | rw [Exit.noGoto_ret] | rw [Exit.noGoto_exit]))
  go_ret
  exact ⟨rfl, hS.below⟩
set_option maxRecDepth 100000 in
set_option maxHeartbeats 16000000 in
theorem notes_bad_false (l : List Rg) (h t g : Int) (hm : l.length ≤ 100) (hG : ¬ goodR ⟨l, h, t, false, g⟩) (v : Value) (w0 : World) (hv : RegsAt w0 v l) :
    Calls Try.prog 8 #[.agg #[v, .int .i64 h, .int .i64 t, .bool false, .int .i64 g]] w0 fun e w' => e = .returned (.bool true) ∧ Below w0.heap.size w0 w' := by
  obtain ⟨p, c, rfl, hc⟩ := hv.slice
  have hS := St.start w0
  have hN1 := fun (w : World) hw => note_bad l h t g false hG (by omega) (.slice p l.length c) w hw
  have hN2 := fun (w : World) hw => noteRef_bad l h t g false hG (by omega) (.slice p l.length c) w hw
  have lX : (zs 128).length = 128 := zs_len 128
  obtain ⟨X, hX⟩ : ∃ X, zs 128 = X := ⟨_, rfl⟩
  rw [hX] at hN1 hN2 lX
  clear hX
  have s1 : csz (bvs X) = 128 := by rw [Ce, lX]
  go_enter Try.func8, Try.ntmps8
  repeat' (first | ((with_reducible refine Ad ?_); first | ((first | refine Bn Aa ?_ | refine Bm Aa ?_ | refine Az Aa ?_ | refine Bf Aa Ab hS ?_ | refine Bi Aa Ab hS ?_ | refine Bs Aa ?_ | refine Ao Aa ?_ | refine Be Aa ?_ | refine Bg Aa ?_ | refine Bv Aa (fun hc => ?_) (fun hc => ?_) | refine Ay Aa ?_ | refine Am Aa ?_ | refine Aw Aa ?_ | refine Ap Aa ?_ | refine Ah Aa ?_ | refine Aj Aa ?_ | refine g_neqSlNil Aa ?_ | refine Bo Aa ?_ | refine Bu Aa ?_) <;> refine Ac ?_) | ((first | refine Bh Aa Ab hS ?_ | refine Bt Aa Ab hS ?_); clear hS; intro b w hS; refine Ac ?_) | ((first | refine Au Aa Ab hS ?_ | refine Bb Aa Ab hS ?_); clear hS; intro w hS; refine Ac ?_) | (refine Cb Aa Ab hS (alive_any _) ?_; clear hS; intro w hS; refine Ac ?_) | (refine Cb Aa Ab hS (hN1 _ (hv.below hS.below)) ?_; clear hS; intro w hS; refine Ac ?_) | (refine Cb Aa Ab hS (hN2 _ (hv.below hS.below)) ?_; clear hS; intro w hS; refine Ac ?_) | (refine Stp.go Aa (by rfl) (by rfl) (r_neA (n := 128) (by rfl) (by rfl) (by rfl) (by kernel_rfl) (by kernel_rfl) lX lX (show (!(X == X)) = false by simp)) ?_; refine Ac ?_) | (refine Cb Aa Ab hS (is_two 2 _) ?_; clear hS; intro w hS; refine Ac ?_) | (refine Cb Aa Ab hS (start_off l h t g _ _ (hv.below hS.below)) ?_; clear hS; intro w hS; refine Ac ?_)) | ((fail_if_success (with_reducible refine Ad ?_)); first | go_step | go_step3 | rw [Exit.noGoto_normal] | rw [Exit.noGoto_ret] | rw [Exit.noGoto_exit]))
  refine Cd 19 (by kernel_rfl) (by kernel_rfl) ?_
  dsimp only [List.take, List.drop]
  iterate 19 (first | (refine Dd (fun _ => rfl) ?_; simp only [Act.put, List.setIfInBounds_toArray, List.set_cons_zero, List.set_cons_succ]) | (refine Cr rfl (fun _ => rfl) _ (fun w => r_alloc (a := ⟨#[], []⟩) rfl (by infer_instance)) ?_; simp only [Act.put, List.setIfInBounds_toArray, List.set_cons_zero, List.set_cons_succ]) | (refine Cm rfl (fun _ => rfl) (fun K hK => ?_); apply Exists.intro; apply Exists.intro; apply Exists.intro; apply Exists.intro; refine ⟨fun pB w' hw' hF => ?_, hK _ _ ?_⟩; (focus (exact Cg (by rfl) (by rfl) (by infer_instance) (by rfl) (by repeat (first | exact (fun _ h => absurd h List.not_mem_nil) | refine List.forall_mem_cons.2 ⟨by first | rfl | (simp only [Value.cells]; first | rfl | omega), ?_⟩)) (by (try conv => lhs; simp only [List.flatMap_cons, List.flatMap_nil, Value.cells, List.append_nil, List.cons_append, List.nil_append]); first | done | rfl) (by decide) (by decide))); clear hK K; simp only [Act.put, List.setIfInBounds_toArray, List.set_cons_zero, List.set_cons_succ]) | (refine Cx (fun _ => rfl) (fun K hK => ?_); apply Exists.intro; refine ⟨fun pB w' hw' hF => ?_, hK _ _ ?_⟩; (focus (have hZ := (Ab).call hS hw'; first | exact (Eb (nobodyRef_any _)) | exact (Eb (nobody_x _)) | exact Dv | exact Cz | exact Dk Ab hZ | exact Dl Ab hZ | exact Ci | exact Cf | exact Dz | exact Dx | exact Co | exact Dy | exact Dw | exact q_mul | exact q_quo | exact q_rem | exact Dn | exact Dm | exact Dc | exact Cp | exact Cw | exact Cq | exact Ch | exact Db | exact Cy | exact Cj | exact q_neqSlNil | exact Cc | exact Cl | exact Du | exact Ds | exact Ea | exact Dj | exact Da | exact Ck | exact Dg | exact Df | exact Cn)); clear hK K; simp only [Act.put, List.setIfInBounds_toArray, List.set_cons_zero, List.set_cons_succ]))
  refine Di ?_
  intro pB w hcq hfq hnq
  replace hS := (Ab).news hS hcq _ (by first | decide | simp) hfq hnq
  first | simp only [List.map_nil, List.nil_append] at hS | simp only [List.map_cons, List.map_nil, List.cons_append, List.nil_append] at hS
  clear hcq hfq hnq
  try dsimp only
  repeat' (first | ((with_reducible refine Ad ?_); first | ((first | refine Bn Aa ?_ | refine Bm Aa ?_ | refine Az Aa ?_ | refine Bf Aa Ab hS ?_ | refine Bi Aa Ab hS ?_ | refine Bs Aa ?_ | refine Ao Aa ?_ | refine Be Aa ?_ | refine Bg Aa ?_ | refine Bv Aa (fun hc => ?_) (fun hc => ?_) | refine Ay Aa ?_ | refine Am Aa ?_ | refine Aw Aa ?_ | refine Ap Aa ?_ | refine Ah Aa ?_ | refine Aj Aa ?_ | refine g_neqSlNil Aa ?_ | refine Bo Aa ?_ | refine Bu Aa ?_) <;> refine Ac ?_) | ((first | refine Bh Aa Ab hS ?_ | refine Bt Aa Ab hS ?_); clear hS; intro b w hS; refine Ac ?_) | ((first | refine Au Aa Ab hS ?_ | refine Bb Aa Ab hS ?_); clear hS; intro w hS; refine Ac ?_)) | ((fail_if_success (with_reducible refine Ad ?_)); first | go_step | go_step3 | rw [Exit.noGoto_normal] | rw [Exit.noGoto_ret] | rw [Exit.noGoto_exit]))
  go_ret
  exact ⟨rfl, hS.below⟩
set_option maxRecDepth 100000 in
set_option maxHeartbeats 16000000 in
theorem notes_bad_true (l : List Rg) (h t g : Int) (hm : l.length ≤ 100) (hG : ¬ goodR ⟨l, h, t, true, g⟩) (v : Value) (w0 : World) (hv : RegsAt w0 v l) :
    Calls Try.prog 8 #[.agg #[v, .int .i64 h, .int .i64 t, .bool true, .int .i64 g]] w0 fun e w' => e = .returned (.bool true) ∧ Below w0.heap.size w0 w' := by
  obtain ⟨p, c, rfl, hc⟩ := hv.slice
  have hS := St.start w0
  have hN1 := fun (w : World) hw => note_bad l h t g true hG (by omega) (.slice p l.length c) w hw
  have hN2 := fun (w : World) hw => noteRef_bad l h t g true hG (by omega) (.slice p l.length c) w hw
  have lX : (zs 128).length = 128 := zs_len 128
  obtain ⟨X, hX⟩ : ∃ X, zs 128 = X := ⟨_, rfl⟩
  rw [hX] at hN1 hN2 lX
  clear hX
  have s1 : csz (bvs X) = 128 := by rw [Ce, lX]
  go_enter Try.func8, Try.ntmps8
  repeat' (first | ((with_reducible refine Ad ?_); first | ((first | refine Bn Aa ?_ | refine Bm Aa ?_ | refine Az Aa ?_ | refine Bf Aa Ab hS ?_ | refine Bi Aa Ab hS ?_ | refine Bs Aa ?_ | refine Ao Aa ?_ | refine Be Aa ?_ | refine Bg Aa ?_ | refine Bv Aa (fun hc => ?_) (fun hc => ?_) | refine Ay Aa ?_ | refine Am Aa ?_ | refine Aw Aa ?_ | refine Ap Aa ?_ | refine Ah Aa ?_ | refine Aj Aa ?_ | refine g_neqSlNil Aa ?_ | refine Bo Aa ?_ | refine Bu Aa ?_) <;> refine Ac ?_) | ((first | refine Bh Aa Ab hS ?_ | refine Bt Aa Ab hS ?_); clear hS; intro b w hS; refine Ac ?_) | ((first | refine Au Aa Ab hS ?_ | refine Bb Aa Ab hS ?_); clear hS; intro w hS; refine Ac ?_) | (refine Cb Aa Ab hS (alive_any _) ?_; clear hS; intro w hS; refine Ac ?_) | (refine Cb Aa Ab hS (hN1 _ (hv.below hS.below)) ?_; clear hS; intro w hS; refine Ac ?_) | (refine Cb Aa Ab hS (hN2 _ (hv.below hS.below)) ?_; clear hS; intro w hS; refine Ac ?_) | (refine Stp.go Aa (by rfl) (by rfl) (r_neA (n := 128) (by rfl) (by rfl) (by rfl) (by kernel_rfl) (by kernel_rfl) lX lX (show (!(X == X)) = false by simp)) ?_; refine Ac ?_) | (refine Cb Aa Ab hS (is_two 2 _) ?_; clear hS; intro w hS; refine Ac ?_)) | ((fail_if_success (with_reducible refine Ad ?_)); first | go_step | go_step3 | rw [Exit.noGoto_normal] | rw [Exit.noGoto_ret] | rw [Exit.noGoto_exit]))
  refine s_call Aa (by rfl) (by rfl) (by rfl) (by rfl) (by rfl) (by infer_instance) (start_on l h t g _ _ (hv.below hS.below) (by omega)) ?_
  rintro e w1 ⟨sv, rfl, ho, hB⟩
  obtain ⟨p2, c2, rfl⟩ := ho.slice
  refine ⟨_, rfl, ?_⟩
  refine Ac ?_
  obtain ⟨Lr, hR, hS2⟩ := ho.join hS hB
  simp only [List.cons_append, List.nil_append] at hS2
  replace hS := hS2
  clear hS2 ho hB
  repeat' (first | ((with_reducible refine Ad ?_); first | ((first | refine Bn Aa ?_ | refine Bm Aa ?_ | refine Az Aa ?_ | refine Bf Aa Ab hS ?_ | refine Bi Aa Ab hS ?_ | refine Bs Aa ?_ | refine Ao Aa ?_ | refine Be Aa ?_ | refine Bg Aa ?_ | refine Bv Aa (fun hc => ?_) (fun hc => ?_) | refine Ay Aa ?_ | refine Am Aa ?_ | refine Aw Aa ?_ | refine Ap Aa ?_ | refine Ah Aa ?_ | refine Aj Aa ?_ | refine g_neqSlNil Aa ?_ | refine Bo Aa ?_ | refine Bu Aa ?_) <;> refine Ac ?_) | ((first | refine Bh Aa Ab hS ?_ | refine Bt Aa Ab hS ?_); clear hS; intro b w hS; refine Ac ?_) | ((first | refine Au Aa Ab hS ?_ | refine Bb Aa Ab hS ?_); clear hS; intro w hS; refine Ac ?_)) | ((fail_if_success (with_reducible refine Ad ?_)); first | go_step | go_step3 | rw [Exit.noGoto_normal] | rw [Exit.noGoto_ret] | rw [Exit.noGoto_exit]))
  refine Cd 19 (by kernel_rfl) (by kernel_rfl) ?_
  dsimp only [List.take, List.drop]
  iterate 19 (first | (refine Dd (fun _ => rfl) ?_; simp only [Act.put, List.setIfInBounds_toArray, List.set_cons_zero, List.set_cons_succ]) | (refine Cr rfl (fun _ => rfl) _ (fun w => r_alloc (a := ⟨#[], []⟩) rfl (by infer_instance)) ?_; simp only [Act.put, List.setIfInBounds_toArray, List.set_cons_zero, List.set_cons_succ]) | (refine Cm rfl (fun _ => rfl) (fun K hK => ?_); apply Exists.intro; apply Exists.intro; apply Exists.intro; apply Exists.intro; refine ⟨fun pB w' hw' hF => ?_, hK _ _ ?_⟩; (focus (exact Cg (by rfl) (by rfl) (by infer_instance) (by rfl) (by repeat (first | exact (fun _ h => absurd h List.not_mem_nil) | refine List.forall_mem_cons.2 ⟨by first | rfl | (simp only [Value.cells]; first | rfl | omega), ?_⟩)) (by (try conv => lhs; simp only [List.flatMap_cons, List.flatMap_nil, Value.cells, List.append_nil, List.cons_append, List.nil_append]); first | done | rfl) (by decide) (by decide))); clear hK K; simp only [Act.put, List.setIfInBounds_toArray, List.set_cons_zero, List.set_cons_succ]) | (refine Cx (fun _ => rfl) (fun K hK => ?_); apply Exists.intro; refine ⟨fun pB w' hw' hF => ?_, hK _ _ ?_⟩; (focus (have hZ := (Ab).call hS hw'; first | exact (Eb (sameRef_x l _ _ h t g true _ (hR.inn hZ (by intro x hx; simp [hx])) (hv.below hZ.below) (by omega))) | exact Dv | exact Cz | exact Dk Ab hZ | exact Dl Ab hZ | exact Ci | exact Cf | exact Dz | exact Dx | exact Co | exact Dy | exact Dw | exact q_mul | exact q_quo | exact q_rem | exact Dn | exact Dm | exact Dc | exact Cp | exact Cw | exact Cq | exact Ch | exact Db | exact Cy | exact Cj | exact q_neqSlNil | exact Cc | exact Cl | exact Du | exact Ds | exact Ea | exact Dj | exact Da | exact Ck | exact Dg | exact Df | exact Cn)); clear hK K; simp only [Act.put, List.setIfInBounds_toArray, List.set_cons_zero, List.set_cons_succ]))
  refine Di ?_
  intro pB w hcq hfq hnq
  replace hS := (Ab).news hS hcq _ (by first | decide | simp) hfq hnq
  first | simp only [List.map_nil, List.nil_append] at hS | simp only [List.map_cons, List.map_nil, List.cons_append, List.nil_append] at hS
  clear hcq hfq hnq
  try dsimp only
  repeat' (first | ((with_reducible refine Ad ?_); first | ((first | refine Bn Aa ?_ | refine Bm Aa ?_ | refine Az Aa ?_ | refine Bf Aa Ab hS ?_ | refine Bi Aa Ab hS ?_ | refine Bs Aa ?_ | refine Ao Aa ?_ | refine Be Aa ?_ | refine Bg Aa ?_ | refine Bv Aa (fun hc => ?_) (fun hc => ?_) | refine Ay Aa ?_ | refine Am Aa ?_ | refine Aw Aa ?_ | refine Ap Aa ?_ | refine Ah Aa ?_ | refine Aj Aa ?_ | refine g_neqSlNil Aa ?_ | refine Bo Aa ?_ | refine Bu Aa ?_) <;> refine Ac ?_) | ((first | refine Bh Aa Ab hS ?_ | refine Bt Aa Ab hS ?_); clear hS; intro b w hS; refine Ac ?_) | ((first | refine Au Aa Ab hS ?_ | refine Bb Aa Ab hS ?_); clear hS; intro w hS; refine Ac ?_)) | ((fail_if_success (with_reducible refine Ad ?_)); first | go_step | go_step3 | rw [Exit.noGoto_normal] | rw [Exit.noGoto_ret] | rw [Exit.noGoto_exit]))
  go_ret
  exact ⟨rfl, hS.below⟩
set_option maxRecDepth 100000 in
theorem resvNotes_any (l : List Rg) (h t g : Int) (s : Bool) (ih : i64R h) (ig : i64R g) (hi : ∀ y ∈ l, i64R y.1 ∧ i64R y.2) (v : Value) (w0 : World) (hv : RegsAt w0 v l) :
    Calls Try.prog 8 #[.agg #[v, .int .i64 h, .int .i64 t, .bool s, .int .i64 g]] w0 fun e w' => e = .returned (.bool true) ∧ Below w0.heap.size w0 w' := by
  by_cases hm : l.length ≤ 100
  · by_cases hG : goodR ⟨l, h, t, s, g⟩
    · cases s
      · exact notes_good_false l h t g hm hG ih ig hi v w0 hv
      · exact notes_good_true l h t g hm hG ih ig hi v w0 hv
    · cases s
      · exact notes_bad_false l h t g hm hG v w0 hv
      · exact notes_bad_true l h t g hm hG v w0 hv
  · obtain ⟨p, c, rfl, hc⟩ := hv.slice
    have hS := St.start w0
    go_enter Try.func8, Try.ntmps8
    repeat' (first | ((with_reducible refine Ad ?_); first | ((first | refine Bn Aa ?_ | refine Bm Aa ?_ | refine Az Aa ?_ | refine Bf Aa Ab hS ?_ | refine Bi Aa Ab hS ?_ | refine Bs Aa ?_ | refine Ao Aa ?_ | refine Be Aa ?_ | refine Bg Aa ?_ | refine Bv Aa (fun hc => ?_) (fun hc => ?_) | refine Ay Aa ?_ | refine Am Aa ?_ | refine Aw Aa ?_ | refine Ap Aa ?_ | refine Ah Aa ?_ | refine Aj Aa ?_ | refine g_neqSlNil Aa ?_ | refine Bo Aa ?_ | refine Bu Aa ?_) <;> refine Ac ?_) | ((first | refine Bh Aa Ab hS ?_ | refine Bt Aa Ab hS ?_); clear hS; intro b w hS; refine Ac ?_) | ((first | refine Au Aa Ab hS ?_ | refine Bb Aa Ab hS ?_); clear hS; intro w hS; refine Ac ?_) | (refine Cb Aa Ab hS (alive_any _) ?_; clear hS; intro w hS; refine Ac ?_)) | ((fail_if_success (with_reducible refine Ad ?_)); first | go_step | go_step3 | rw [Exit.noGoto_normal] | rw [Exit.noGoto_ret] | rw [Exit.noGoto_exit]))
    go_ret
    exact ⟨rfl, hS.below⟩
end Go.Proofs.Ytkfggilildiflac

namespace Go.Proofs.Ytkfggilildiflac
open Go.ChangeShapes Go.WideShapes Go.ChangeAt Go.RowKit

theorem Try.own : ownKnob Try.prog.godebug = none := by kernel_rfl
theorem Try.laidOut : laidOutB Try.prog = true := by kernel_rfl

set_option maxRecDepth 100000 in
theorem resvNotes_lifted (os : Os) (started : os.Started) (H : Type) (enc : TypeId × Value → H) :
    ReturnsInHanded {} Try.checked os 8 .any (Rows.resvNotesSpec.pre6 enc Try.prog Try.f8 Rows.resvNotesRow.domain false) (Rows.resvNotesSpec.post enc Try.prog Try.f8 false true false false) := by
  refine law_lift (C := Try.checked) Try.own started (by kernel_rfl) Try.func8
    (ChangeSpec.witness6 (enc := enc) (C := Try.checked) false ⟨#[], #[.agg #[.slice none 0 0, .int .i64 0, .int .i64 0, .bool false, .int .i64 0]], []⟩ 8 (by kernel_rfl) (by kernel_rfl) (by kernel_rfl) (by kernel_rfl))
    rfl (by kernel_rfl) Try.underlying4 (fun ds h => by match ds, h with | [a], _ => exact ⟨rfl, rfl, rfl⟩) Try.laidOut (by kernel_rfl) ?_
  intro W base args ds p hval0 hA0 hlt hsz0
  have hval : ∀ (j : Nat) t v, Try.f8.params[j]? = some t → args[j]? = some v → Value.okWide Try.prog W .any base t v := hval0
  have hA : DataW.TrodAll enc Try.prog W 0 (fun _ => true) true Try.f8.params.toList args.toList ds p := hA0
  have hsz : (DataW.weightsEach Try.prog Try.f8.params.toList ds).all (· ≤ reachBytes) = true := hsz0
  rw [Try.params8] at hA hval hsz
  obtain ⟨v0, d0, rfl, rfl, h0⟩ := trodAll_one hA

  obtain ⟨rv, l, h, t, g, s, ih, ig, hi, B0, rfl⟩ := open_resvI (hval 0 _ v0 rfl rfl) h0
  exact resvNotes_any l h t g s ih ig hi rv W B0

theorem resvNotes_holds : Rows.ResvNotesSaid :=
  OpenClaim.holds_of_wide 8 Try.f8 rfl rfl rfl rfl rfl rfl rfl ⟨rfl, rfl, rfl, rfl, rfl⟩ rfl rfl rfl rfl rfl (by kernel_rfl) Try.func8 (by kernel_rfl)
    (of_decide_eq_true (by kernel_rfl)) (by unfold Func.isWrapper; rw [if_neg (by decide +kernel)]; exact ⟨rfl, rfl⟩)
    (fun os started H enc _ => resvNotes_lifted os started H enc)

end Go.Proofs.Ytkfggilildiflac
