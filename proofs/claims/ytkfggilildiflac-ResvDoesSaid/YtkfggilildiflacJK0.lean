/-
  Laws that the claims of this seat use, of several texts in one: ResvDo3. No condition of their own.
-/
import Derived.Test.YtkfggilildiflacJJ0

namespace Go.Proofs.Ytkfggilildiflac
open Go.ChangeShapes Go.WideShapes Go.ChangeAt Go.RowKit
attribute [local irreducible] wpList wpListIn Oper.quietAt wpM
set_option maxRecDepth 100000 in
set_option maxHeartbeats 16000000 in
theorem doRef_2a (l : List Rg) (v : Value) (h t g : Int) (s : Bool) (who key new typ : Int) (st : Bool) (w0 : World) (hv : RegsAt w0 v l) (hm : l.length ≤ 100) (hG : decide (goodR ⟨l, h, t, s, g⟩) = true) (h2 : 0 ≤ who) (h3 : 0 ≤ key) (h4 : 0 ≤ new) (K : Int) (hK : keyOf l who = K) (hk0 : ¬ K = 0) (hk : K = key) (h5 : 1 ≤ typ) (h6 : typ ≤ 6) (hh : h = -1) : DoRef l v h t g s 2 who key new typ st w0 ⟨l, who, typ, s, g⟩ 0 := by
  unfold DoRef
  obtain ⟨p1, c1, rfl, _⟩ := hv.slice
  have hS := St.start w0
  go_enter Try.func11, Try.ntmps11
  repeat' (first | ((with_reducible refine Ad ?_); first | ((first | refine Bn Aa ?_ | refine Bm Aa ?_ | refine Az Aa ?_ | refine Bf Aa Ab hS ?_ | refine Bi Aa Ab hS ?_ | refine Ag Aa ?_ | refine Af Aa ?_ | refine Bs Aa ?_ | refine Bx Aa ?_ | refine Ao Aa ?_ | refine Bw Aa ?_ | refine Br Aa ?_ | refine Be Aa ?_ | refine Bg Aa ?_ | refine Bv Aa (fun hc => ?_) (fun hc => ?_) | refine Ay Aa ?_ | refine Am Aa ?_ | refine Aw Aa ?_ | refine Ap Aa ?_ | refine Ah Aa ?_ | refine Ax Aa ?_ | refine Ar Aa ?_ | refine Aj Aa ?_ | refine Ae Aa ?_ | refine Ai Aa ?_ | refine Bp Aa ?_ | refine Bo Aa ?_ | refine Bu Aa ?_ | refine Bc Aa ?_ | refine As Aa ?_ | refine Ak Aa ?_ | refine Aq Aa ?_ | refine Bj Aa ?_ | refine Bk Aa ?_) <;> refine Ac ?_) | ((first | refine Bh Aa Ab hS ?_ | refine Bt Aa Ab hS ?_ | refine Ba Aa Ab hS ?_ | refine Bd Aa Ab hS ?_); clear hS; intro b w hS; refine Ac ?_) | ((first | refine Av Aa Ab hS ?_ | refine Au Aa Ab hS ?_ | refine Bb Aa Ab hS ?_); clear hS; intro w hS; refine Ac ?_) | (refine Cb Aa Ab hS (goodRef_d hG _ _ (hv.below hS.below) (by omega)) ?_; clear hS; intro w hS; refine Ac ?_) | (refine Cb Aa Ab hS (key_c hK _ _ _ _ _ _ (hv.below hS.below) (by omega)) ?_; clear hS; intro w hS; refine Ac ?_)) | ((fail_if_success (with_reducible refine Ad ?_)); first | go_step | go_step3 | rw [Exit.noGoto_normal] | rw [Exit.noGoto_ret] | rw [Exit.noGoto_exit]))
  exact De (n := 5) Try.results11 (by kernel_rfl) (.inl rfl) _ _ _ _ rfl rfl (hS.blk 0 rfl) (by rfl) ⟨_, rfl, hv.below hS.below, hS.below⟩
set_option maxRecDepth 100000 in
set_option maxHeartbeats 16000000 in
theorem doRef_2b (l : List Rg) (v : Value) (h t g : Int) (s : Bool) (who key new typ : Int) (st : Bool) (w0 : World) (hv : RegsAt w0 v l) (hm : l.length ≤ 100) (hG : decide (goodR ⟨l, h, t, s, g⟩) = true) (h2 : 0 ≤ who) (h3 : 0 ≤ key) (h4 : 0 ≤ new) (K : Int) (hK : keyOf l who = K) (hk0 : ¬ K = 0) (hk : K = key) (h5 : 1 ≤ typ) (h6 : typ ≤ 6) (hh : ¬ h = -1) (hH : decide (holdsR ⟨l, h, t, s, g⟩ who) = true) (hat : t = typ) : DoRef l v h t g s 2 who key new typ st w0 ⟨l, h, t, s, g⟩ 0 := by
  unfold DoRef
  obtain ⟨p1, c1, rfl, _⟩ := hv.slice
  have hS := St.start w0
  go_enter Try.func11, Try.ntmps11
  repeat' (first | ((with_reducible refine Ad ?_); first | ((first | refine Bn Aa ?_ | refine Bm Aa ?_ | refine Az Aa ?_ | refine Bf Aa Ab hS ?_ | refine Bi Aa Ab hS ?_ | refine Ag Aa ?_ | refine Af Aa ?_ | refine Bs Aa ?_ | refine Bx Aa ?_ | refine Ao Aa ?_ | refine Bw Aa ?_ | refine Br Aa ?_ | refine Be Aa ?_ | refine Bg Aa ?_ | refine Bv Aa (fun hc => ?_) (fun hc => ?_) | refine Ay Aa ?_ | refine Am Aa ?_ | refine Aw Aa ?_ | refine Ap Aa ?_ | refine Ah Aa ?_ | refine Ax Aa ?_ | refine Ar Aa ?_ | refine Aj Aa ?_ | refine Ae Aa ?_ | refine Ai Aa ?_ | refine Bp Aa ?_ | refine Bo Aa ?_ | refine Bu Aa ?_ | refine Bc Aa ?_ | refine As Aa ?_ | refine Ak Aa ?_ | refine Aq Aa ?_ | refine Bj Aa ?_ | refine Bk Aa ?_) <;> refine Ac ?_) | ((first | refine Bh Aa Ab hS ?_ | refine Bt Aa Ab hS ?_ | refine Ba Aa Ab hS ?_ | refine Bd Aa Ab hS ?_); clear hS; intro b w hS; refine Ac ?_) | ((first | refine Av Aa Ab hS ?_ | refine Au Aa Ab hS ?_ | refine Bb Aa Ab hS ?_); clear hS; intro w hS; refine Ac ?_) | (refine Cb Aa Ab hS (goodRef_d hG _ _ (hv.below hS.below) (by omega)) ?_; clear hS; intro w hS; refine Ac ?_) | (refine Cb Aa Ab hS (key_c hK _ _ _ _ _ _ (hv.below hS.below) (by omega)) ?_; clear hS; intro w hS; refine Ac ?_) | (refine Cb Aa Ab hS (holdsRef_d hH _ _ (hv.below hS.below) (by omega)) ?_; clear hS; intro w hS; refine Ac ?_)) | ((fail_if_success (with_reducible refine Ad ?_)); first | go_step | go_step3 | rw [Exit.noGoto_normal] | rw [Exit.noGoto_ret] | rw [Exit.noGoto_exit]))
  exact De (n := 5) Try.results11 (by kernel_rfl) (.inl rfl) _ _ _ _ rfl rfl (hS.blk 0 rfl) (by rfl) ⟨_, rfl, hv.below hS.below, hS.below⟩
set_option maxRecDepth 100000 in
set_option maxHeartbeats 16000000 in
theorem doRef_2c (l : List Rg) (v : Value) (h t g : Int) (s : Bool) (who key new typ : Int) (st : Bool) (w0 : World) (hv : RegsAt w0 v l) (hm : l.length ≤ 100) (hG : decide (goodR ⟨l, h, t, s, g⟩) = true) (h2 : 0 ≤ who) (h3 : 0 ≤ key) (h4 : 0 ≤ new) (K : Int) (hK : keyOf l who = K) (hk0 : ¬ K = 0) (hk : K = key) (h5 : 1 ≤ typ) (h6 : typ ≤ 6) (hh : ¬ h = -1) (hH : decide (holdsR ⟨l, h, t, s, g⟩ who) = true) (hat : ¬ t = typ) : DoRef l v h t g s 2 who key new typ st w0 nobody 9 := by
  unfold DoRef
  obtain ⟨p1, c1, rfl, _⟩ := hv.slice
  have hS := St.start w0
  go_enter Try.func11, Try.ntmps11
  repeat' (first | ((with_reducible refine Ad ?_); first | ((first | refine Bn Aa ?_ | refine Bm Aa ?_ | refine Az Aa ?_ | refine Bf Aa Ab hS ?_ | refine Bi Aa Ab hS ?_ | refine Ag Aa ?_ | refine Af Aa ?_ | refine Bs Aa ?_ | refine Bx Aa ?_ | refine Ao Aa ?_ | refine Bw Aa ?_ | refine Br Aa ?_ | refine Be Aa ?_ | refine Bg Aa ?_ | refine Bv Aa (fun hc => ?_) (fun hc => ?_) | refine Ay Aa ?_ | refine Am Aa ?_ | refine Aw Aa ?_ | refine Ap Aa ?_ | refine Ah Aa ?_ | refine Ax Aa ?_ | refine Ar Aa ?_ | refine Aj Aa ?_ | refine Ae Aa ?_ | refine Ai Aa ?_ | refine Bp Aa ?_ | refine Bo Aa ?_ | refine Bu Aa ?_ | refine Bc Aa ?_ | refine As Aa ?_ | refine Ak Aa ?_ | refine Aq Aa ?_ | refine Bj Aa ?_ | refine Bk Aa ?_) <;> refine Ac ?_) | ((first | refine Bh Aa Ab hS ?_ | refine Bt Aa Ab hS ?_ | refine Ba Aa Ab hS ?_ | refine Bd Aa Ab hS ?_); clear hS; intro b w hS; refine Ac ?_) | ((first | refine Av Aa Ab hS ?_ | refine Au Aa Ab hS ?_ | refine Bb Aa Ab hS ?_); clear hS; intro w hS; refine Ac ?_) | (refine Cb Aa Ab hS (goodRef_d hG _ _ (hv.below hS.below) (by omega)) ?_; clear hS; intro w hS; refine Ac ?_) | (refine Cb Aa Ab hS (key_c hK _ _ _ _ _ _ (hv.below hS.below) (by omega)) ?_; clear hS; intro w hS; refine Ac ?_) | (refine Cb Aa Ab hS (holdsRef_d hH _ _ (hv.below hS.below) (by omega)) ?_; clear hS; intro w hS; refine Ac ?_) | (refine Cb Aa Ab hS (nobodyRef_any _) ?_; clear hS; intro w hS; refine Ac ?_)) | ((fail_if_success (with_reducible refine Ad ?_)); first | go_step | go_step3 | rw [Exit.noGoto_normal] | rw [Exit.noGoto_ret] | rw [Exit.noGoto_exit]))
  exact De (n := 5) Try.results11 (by kernel_rfl) (.inl rfl) _ _ _ _ rfl rfl (hS.blk 0 rfl) (by rfl) ⟨_, rfl, regsAt_nil _, hS.below⟩
set_option maxRecDepth 100000 in
set_option maxHeartbeats 16000000 in
theorem doRef_2d (l : List Rg) (v : Value) (h t g : Int) (s : Bool) (who key new typ : Int) (st : Bool) (w0 : World) (hv : RegsAt w0 v l) (hm : l.length ≤ 100) (hG : decide (goodR ⟨l, h, t, s, g⟩) = true) (h2 : 0 ≤ who) (h3 : 0 ≤ key) (h4 : 0 ≤ new) (K : Int) (hK : keyOf l who = K) (hk0 : ¬ K = 0) (hk : K = key) (h5 : 1 ≤ typ) (h6 : typ ≤ 6) (hh : ¬ h = -1) (hH : decide (holdsR ⟨l, h, t, s, g⟩ who) = false) : DoRef l v h t g s 2 who key new typ st w0 nobody 9 := by
  unfold DoRef
  obtain ⟨p1, c1, rfl, _⟩ := hv.slice
  have hS := St.start w0
  go_enter Try.func11, Try.ntmps11
  repeat' (first | ((with_reducible refine Ad ?_); first | ((first | refine Bn Aa ?_ | refine Bm Aa ?_ | refine Az Aa ?_ | refine Bf Aa Ab hS ?_ | refine Bi Aa Ab hS ?_ | refine Ag Aa ?_ | refine Af Aa ?_ | refine Bs Aa ?_ | refine Bx Aa ?_ | refine Ao Aa ?_ | refine Bw Aa ?_ | refine Br Aa ?_ | refine Be Aa ?_ | refine Bg Aa ?_ | refine Bv Aa (fun hc => ?_) (fun hc => ?_) | refine Ay Aa ?_ | refine Am Aa ?_ | refine Aw Aa ?_ | refine Ap Aa ?_ | refine Ah Aa ?_ | refine Ax Aa ?_ | refine Ar Aa ?_ | refine Aj Aa ?_ | refine Ae Aa ?_ | refine Ai Aa ?_ | refine Bp Aa ?_ | refine Bo Aa ?_ | refine Bu Aa ?_ | refine Bc Aa ?_ | refine As Aa ?_ | refine Ak Aa ?_ | refine Aq Aa ?_ | refine Bj Aa ?_ | refine Bk Aa ?_) <;> refine Ac ?_) | ((first | refine Bh Aa Ab hS ?_ | refine Bt Aa Ab hS ?_ | refine Ba Aa Ab hS ?_ | refine Bd Aa Ab hS ?_); clear hS; intro b w hS; refine Ac ?_) | ((first | refine Av Aa Ab hS ?_ | refine Au Aa Ab hS ?_ | refine Bb Aa Ab hS ?_); clear hS; intro w hS; refine Ac ?_) | (refine Cb Aa Ab hS (goodRef_d hG _ _ (hv.below hS.below) (by omega)) ?_; clear hS; intro w hS; refine Ac ?_) | (refine Cb Aa Ab hS (key_c hK _ _ _ _ _ _ (hv.below hS.below) (by omega)) ?_; clear hS; intro w hS; refine Ac ?_) | (refine Cb Aa Ab hS (holdsRef_d hH _ _ (hv.below hS.below) (by omega)) ?_; clear hS; intro w hS; refine Ac ?_) | (refine Cb Aa Ab hS (nobodyRef_any _) ?_; clear hS; intro w hS; refine Ac ?_)) | ((fail_if_success (with_reducible refine Ad ?_)); first | go_step | go_step3 | rw [Exit.noGoto_normal] | rw [Exit.noGoto_ret] | rw [Exit.noGoto_exit]))
  exact De (n := 5) Try.results11 (by kernel_rfl) (.inl rfl) _ _ _ _ rfl rfl (hS.blk 0 rfl) (by rfl) ⟨_, rfl, regsAt_nil _, hS.below⟩
set_option maxRecDepth 100000 in
set_option maxHeartbeats 16000000 in
theorem doRef_3a (l : List Rg) (v : Value) (h t g : Int) (s : Bool) (who key new typ : Int) (st : Bool) (w0 : World) (hv : RegsAt w0 v l) (hm : l.length ≤ 100) (hG : decide (goodR ⟨l, h, t, s, g⟩) = true) (h2 : 0 ≤ who) (h3 : 0 ≤ key) (h4 : 0 ≤ new) (K : Int) (hK : keyOf l who = K) (hk0 : ¬ K = 0) (hk : K = key) (h5 : 1 ≤ typ) (h6 : typ ≤ 6) (hH : decide (holdsR ⟨l, h, t, s, g⟩ who) = false) : DoRef l v h t g s 3 who key new typ st w0 ⟨l, h, t, s, g⟩ 0 := by
  unfold DoRef
  obtain ⟨p1, c1, rfl, _⟩ := hv.slice
  have hS := St.start w0
  go_enter Try.func11, Try.ntmps11
  repeat' (first | ((with_reducible refine Ad ?_); first | ((first | refine Bn Aa ?_ | refine Bm Aa ?_ | refine Az Aa ?_ | refine Bf Aa Ab hS ?_ | refine Bi Aa Ab hS ?_ | refine Ag Aa ?_ | refine Af Aa ?_ | refine Bs Aa ?_ | refine Bx Aa ?_ | refine Ao Aa ?_ | refine Bw Aa ?_ | refine Br Aa ?_ | refine Be Aa ?_ | refine Bg Aa ?_ | refine Bv Aa (fun hc => ?_) (fun hc => ?_) | refine Ay Aa ?_ | refine Am Aa ?_ | refine Aw Aa ?_ | refine Ap Aa ?_ | refine Ah Aa ?_ | refine Ax Aa ?_ | refine Ar Aa ?_ | refine Aj Aa ?_ | refine Ae Aa ?_ | refine Ai Aa ?_ | refine Bp Aa ?_ | refine Bo Aa ?_ | refine Bu Aa ?_ | refine Bc Aa ?_ | refine As Aa ?_ | refine Ak Aa ?_ | refine Aq Aa ?_ | refine Bj Aa ?_ | refine Bk Aa ?_) <;> refine Ac ?_) | ((first | refine Bh Aa Ab hS ?_ | refine Bt Aa Ab hS ?_ | refine Ba Aa Ab hS ?_ | refine Bd Aa Ab hS ?_); clear hS; intro b w hS; refine Ac ?_) | ((first | refine Av Aa Ab hS ?_ | refine Au Aa Ab hS ?_ | refine Bb Aa Ab hS ?_); clear hS; intro w hS; refine Ac ?_) | (refine Cb Aa Ab hS (goodRef_d hG _ _ (hv.below hS.below) (by omega)) ?_; clear hS; intro w hS; refine Ac ?_) | (refine Cb Aa Ab hS (key_c hK _ _ _ _ _ _ (hv.below hS.below) (by omega)) ?_; clear hS; intro w hS; refine Ac ?_) | (refine Cb Aa Ab hS (holdsRef_d hH _ _ (hv.below hS.below) (by omega)) ?_; clear hS; intro w hS; refine Ac ?_)) | ((fail_if_success (with_reducible refine Ad ?_)); first | go_step | go_step3 | rw [Exit.noGoto_normal] | rw [Exit.noGoto_ret] | rw [Exit.noGoto_exit]))
  exact De (n := 5) Try.results11 (by kernel_rfl) (.inl rfl) _ _ _ _ rfl rfl (hS.blk 0 rfl) (by rfl) ⟨_, rfl, hv.below hS.below, hS.below⟩
set_option maxRecDepth 100000 in
set_option maxHeartbeats 16000000 in
theorem doRef_3b (l : List Rg) (v : Value) (h t g : Int) (s : Bool) (who key new typ : Int) (st : Bool) (w0 : World) (hv : RegsAt w0 v l) (hm : l.length ≤ 100) (hG : decide (goodR ⟨l, h, t, s, g⟩) = true) (h2 : 0 ≤ who) (h3 : 0 ≤ key) (h4 : 0 ≤ new) (K : Int) (hK : keyOf l who = K) (hk0 : ¬ K = 0) (hk : K = key) (h5 : 1 ≤ typ) (h6 : typ ≤ 6) (hH : decide (holdsR ⟨l, h, t, s, g⟩ who) = true) (hat : t = typ) : DoRef l v h t g s 3 who key new typ st w0 ⟨l, -1, 0, s, g⟩ 0 := by
  unfold DoRef
  obtain ⟨p1, c1, rfl, _⟩ := hv.slice
  have hS := St.start w0
  go_enter Try.func11, Try.ntmps11
  repeat' (first | ((with_reducible refine Ad ?_); first | ((first | refine Bn Aa ?_ | refine Bm Aa ?_ | refine Az Aa ?_ | refine Bf Aa Ab hS ?_ | refine Bi Aa Ab hS ?_ | refine Ag Aa ?_ | refine Af Aa ?_ | refine Bs Aa ?_ | refine Bx Aa ?_ | refine Ao Aa ?_ | refine Bw Aa ?_ | refine Br Aa ?_ | refine Be Aa ?_ | refine Bg Aa ?_ | refine Bv Aa (fun hc => ?_) (fun hc => ?_) | refine Ay Aa ?_ | refine Am Aa ?_ | refine Aw Aa ?_ | refine Ap Aa ?_ | refine Ah Aa ?_ | refine Ax Aa ?_ | refine Ar Aa ?_ | refine Aj Aa ?_ | refine Ae Aa ?_ | refine Ai Aa ?_ | refine Bp Aa ?_ | refine Bo Aa ?_ | refine Bu Aa ?_ | refine Bc Aa ?_ | refine As Aa ?_ | refine Ak Aa ?_ | refine Aq Aa ?_ | refine Bj Aa ?_ | refine Bk Aa ?_) <;> refine Ac ?_) | ((first | refine Bh Aa Ab hS ?_ | refine Bt Aa Ab hS ?_ | refine Ba Aa Ab hS ?_ | refine Bd Aa Ab hS ?_); clear hS; intro b w hS; refine Ac ?_) | ((first | refine Av Aa Ab hS ?_ | refine Au Aa Ab hS ?_ | refine Bb Aa Ab hS ?_); clear hS; intro w hS; refine Ac ?_) | (refine Cb Aa Ab hS (goodRef_d hG _ _ (hv.below hS.below) (by omega)) ?_; clear hS; intro w hS; refine Ac ?_) | (refine Cb Aa Ab hS (key_c hK _ _ _ _ _ _ (hv.below hS.below) (by omega)) ?_; clear hS; intro w hS; refine Ac ?_) | (refine Cb Aa Ab hS (holdsRef_d hH _ _ (hv.below hS.below) (by omega)) ?_; clear hS; intro w hS; refine Ac ?_)) | ((fail_if_success (with_reducible refine Ad ?_)); first | go_step | go_step3 | rw [Exit.noGoto_normal] | rw [Exit.noGoto_ret] | rw [Exit.noGoto_exit]))
  exact De (n := 5) Try.results11 (by kernel_rfl) (.inl rfl) _ _ _ _ rfl rfl (hS.blk 0 rfl) (by rfl) ⟨_, rfl, hv.below hS.below, hS.below⟩
set_option maxRecDepth 100000 in
set_option maxHeartbeats 16000000 in
theorem doRef_3c (l : List Rg) (v : Value) (h t g : Int) (s : Bool) (who key new typ : Int) (st : Bool) (w0 : World) (hv : RegsAt w0 v l) (hm : l.length ≤ 100) (hG : decide (goodR ⟨l, h, t, s, g⟩) = true) (h2 : 0 ≤ who) (h3 : 0 ≤ key) (h4 : 0 ≤ new) (K : Int) (hK : keyOf l who = K) (hk0 : ¬ K = 0) (hk : K = key) (h5 : 1 ≤ typ) (h6 : typ ≤ 6) (hH : decide (holdsR ⟨l, h, t, s, g⟩ who) = true) (hat : ¬ t = typ) : DoRef l v h t g s 3 who key new typ st w0 nobody 2 := by
  unfold DoRef
  obtain ⟨p1, c1, rfl, _⟩ := hv.slice
  have hS := St.start w0
  go_enter Try.func11, Try.ntmps11
  repeat' (first | ((with_reducible refine Ad ?_); first | ((first | refine Bn Aa ?_ | refine Bm Aa ?_ | refine Az Aa ?_ | refine Bf Aa Ab hS ?_ | refine Bi Aa Ab hS ?_ | refine Ag Aa ?_ | refine Af Aa ?_ | refine Bs Aa ?_ | refine Bx Aa ?_ | refine Ao Aa ?_ | refine Bw Aa ?_ | refine Br Aa ?_ | refine Be Aa ?_ | refine Bg Aa ?_ | refine Bv Aa (fun hc => ?_) (fun hc => ?_) | refine Ay Aa ?_ | refine Am Aa ?_ | refine Aw Aa ?_ | refine Ap Aa ?_ | refine Ah Aa ?_ | refine Ax Aa ?_ | refine Ar Aa ?_ | refine Aj Aa ?_ | refine Ae Aa ?_ | refine Ai Aa ?_ | refine Bp Aa ?_ | refine Bo Aa ?_ | refine Bu Aa ?_ | refine Bc Aa ?_ | refine As Aa ?_ | refine Ak Aa ?_ | refine Aq Aa ?_ | refine Bj Aa ?_ | refine Bk Aa ?_) <;> refine Ac ?_) | ((first | refine Bh Aa Ab hS ?_ | refine Bt Aa Ab hS ?_ | refine Ba Aa Ab hS ?_ | refine Bd Aa Ab hS ?_); clear hS; intro b w hS; refine Ac ?_) | ((first | refine Av Aa Ab hS ?_ | refine Au Aa Ab hS ?_ | refine Bb Aa Ab hS ?_); clear hS; intro w hS; refine Ac ?_) | (refine Cb Aa Ab hS (goodRef_d hG _ _ (hv.below hS.below) (by omega)) ?_; clear hS; intro w hS; refine Ac ?_) | (refine Cb Aa Ab hS (key_c hK _ _ _ _ _ _ (hv.below hS.below) (by omega)) ?_; clear hS; intro w hS; refine Ac ?_) | (refine Cb Aa Ab hS (holdsRef_d hH _ _ (hv.below hS.below) (by omega)) ?_; clear hS; intro w hS; refine Ac ?_) | (refine Cb Aa Ab hS (nobodyRef_any _) ?_; clear hS; intro w hS; refine Ac ?_)) | ((fail_if_success (with_reducible refine Ad ?_)); first | go_step | go_step3 | rw [Exit.noGoto_normal] | rw [Exit.noGoto_ret] | rw [Exit.noGoto_exit]))
  exact De (n := 5) Try.results11 (by kernel_rfl) (.inl rfl) _ _ _ _ rfl rfl (hS.blk 0 rfl) (by rfl) ⟨_, rfl, regsAt_nil _, hS.below⟩
set_option maxRecDepth 100000 in
set_option maxHeartbeats 16000000 in
theorem doRef_4 (l : List Rg) (v : Value) (h t g : Int) (s : Bool) (who key new typ : Int) (st : Bool) (w0 : World) (hv : RegsAt w0 v l) (hm : l.length ≤ 100) (hG : decide (goodR ⟨l, h, t, s, g⟩) = true) (h2 : 0 ≤ who) (h3 : 0 ≤ key) (h4 : 0 ≤ new) (K : Int) (hK : keyOf l who = K) (hk0 : ¬ K = 0) (hk : K = key) : DoRef l v h t g s 4 who key new typ st w0 ⟨[], -1, 0, s, wrap64 (g + 1)⟩ 0 := by
  unfold DoRef
  obtain ⟨p1, c1, rfl, _⟩ := hv.slice
  have hS := St.start w0
  go_enter Try.func11, Try.ntmps11
  repeat' (first | ((with_reducible refine Ad ?_); first | ((first | refine Bn Aa ?_ | refine Bm Aa ?_ | refine Az Aa ?_ | refine Bf Aa Ab hS ?_ | refine Bi Aa Ab hS ?_ | refine Ag Aa ?_ | refine Af Aa ?_ | refine Bs Aa ?_ | refine Bx Aa ?_ | refine Ao Aa ?_ | refine Bw Aa ?_ | refine Br Aa ?_ | refine Be Aa ?_ | refine Bg Aa ?_ | refine Bv Aa (fun hc => ?_) (fun hc => ?_) | refine Ay Aa ?_ | refine Am Aa ?_ | refine Aw Aa ?_ | refine Ap Aa ?_ | refine Ah Aa ?_ | refine Ax Aa ?_ | refine Ar Aa ?_ | refine Aj Aa ?_ | refine Ae Aa ?_ | refine Ai Aa ?_ | refine Bp Aa ?_ | refine Bo Aa ?_ | refine Bu Aa ?_ | refine Bc Aa ?_ | refine As Aa ?_ | refine Ak Aa ?_ | refine Aq Aa ?_ | refine Bj Aa ?_ | refine Bk Aa ?_) <;> refine Ac ?_) | ((first | refine Bh Aa Ab hS ?_ | refine Bt Aa Ab hS ?_ | refine Ba Aa Ab hS ?_ | refine Bd Aa Ab hS ?_); clear hS; intro b w hS; refine Ac ?_) | ((first | refine Av Aa Ab hS ?_ | refine Au Aa Ab hS ?_ | refine Bb Aa Ab hS ?_); clear hS; intro w hS; refine Ac ?_) | (refine Cb Aa Ab hS (goodRef_d hG _ _ (hv.below hS.below) (by omega)) ?_; clear hS; intro w hS; refine Ac ?_) | (refine Cb Aa Ab hS (key_c hK _ _ _ _ _ _ (hv.below hS.below) (by omega)) ?_; clear hS; intro w hS; refine Ac ?_) | (refine Stp.go Aa (by rfl) (by rfl) (r_addW (by rfl) (by rfl) (by rfl) rfl) ?_; refine Ac ?_)) | ((fail_if_success (with_reducible refine Ad ?_)); first | go_step | go_step3 | rw [Exit.noGoto_normal] | rw [Exit.noGoto_ret] | rw [Exit.noGoto_exit]))
  exact De (n := 5) Try.results11 (by kernel_rfl) (.inl rfl) _ _ _ _ rfl rfl (hS.blk 0 rfl) (by rfl) ⟨_, rfl, regsAt_nil _, hS.below⟩
theorem doRef_234 (l : List Rg) (v : Value) (h t g : Int) (s : Bool) (op who key new typ : Int) (st : Bool) (w0 : World) (hv : RegsAt w0 v l) (hm : l.length ≤ 100) (hG : decide (goodR ⟨l, h, t, s, g⟩) = true) (hO : soundR ⟨op, who, key, new, typ, st⟩) (hk : knowsR ⟨l, h, t, s, g⟩ ⟨op, who, key, new, typ, st⟩) (h234 : op = 2 ∨ op = 3 ∨ op = 4) (x : Rv) (er : Int) (hx : actR ⟨l, h, t, s, g⟩ ⟨op, who, key, new, typ, st⟩ = (x, er)) : DoRef l v h t g s op who key new typ st w0 x er := by
  have hs : (1 ≤ op ∧ op ≤ 6) ∧ 0 ≤ who ∧ 0 ≤ key ∧ 0 ≤ new ∧ ((op = 2 ∨ op = 3 ∨ op = 5) → 1 ≤ typ ∧ typ ≤ 6) := hO
  obtain ⟨h1, h2, h3, h4, h5⟩ := hs
  obtain ⟨K, hK⟩ : ∃ K, keyOf l who = K := ⟨_, rfl⟩
  obtain ⟨H, hH⟩ : ∃ H, decide (holdsR ⟨l, h, t, s, g⟩ who) = H := ⟨_, rfl⟩
  unfold knowsR at hk
  unfold actR at hx
  dsimp only at hk hx
  rw [hK] at hk
  clear h1 hO
  have hkk : ¬ K = 0 ∧ K = key := by
    rw [if_neg (by omega), if_neg (by omega)] at hk
    exact hk
  obtain ⟨hk0, hk1⟩ := hkk
  clear hk
  rcases h234 with rfl | rfl | rfl
  · obtain ⟨h5a, h5b⟩ := h5 (by decide)
    rw [if_neg (by decide), if_pos rfl] at hx
    by_cases hh : h = -1
    · rw [if_pos hh] at hx
      cases hx
      exact doRef_2a l v h t g s who key new typ st w0 hv hm hG h2 h3 h4 K hK hk0 hk1 h5a h5b hh
    · rw [if_neg hh] at hx
      by_cases ha : holdsR ⟨l, h, t, s, g⟩ who ∧ t = typ
      · rw [if_pos ha] at hx
        cases hx
        exact doRef_2b l v h t g s who key new typ st w0 hv hm hG h2 h3 h4 K hK hk0 hk1 h5a h5b hh (decide_eq_true ha.1) ha.2
      · rw [if_neg ha] at hx
        cases hx
        cases H with
        | true => exact doRef_2c l v h t g s who key new typ st w0 hv hm hG h2 h3 h4 K hK hk0 hk1 h5a h5b hh hH (fun e => ha ⟨of_decide_eq_true hH, e⟩)
        | false => exact doRef_2d l v h t g s who key new typ st w0 hv hm hG h2 h3 h4 K hK hk0 hk1 h5a h5b hh hH
  · obtain ⟨h5a, h5b⟩ := h5 (by decide)
    rw [if_neg (by decide), if_neg (by decide), if_pos rfl] at hx
    cases H with
    | false =>
      rw [if_pos (of_decide_eq_false hH)] at hx
      cases hx
      exact doRef_3a l v h t g s who key new typ st w0 hv hm hG h2 h3 h4 K hK hk0 hk1 h5a h5b hH
    | true =>
      rw [if_neg (fun hz => hz (of_decide_eq_true hH))] at hx
      by_cases hat : t = typ
      · rw [if_neg (fun hz => hz hat)] at hx
        cases hx
        exact doRef_3b l v h t g s who key new typ st w0 hv hm hG h2 h3 h4 K hK hk0 hk1 h5a h5b hH hat
      · rw [if_pos hat] at hx
        cases hx
        exact doRef_3c l v h t g s who key new typ st w0 hv hm hG h2 h3 h4 K hK hk0 hk1 h5a h5b hH hat
  · rw [if_neg (by decide), if_neg (by decide), if_neg (by decide), if_pos rfl] at hx
    cases hx
    exact doRef_4 l v h t g s who key new typ st w0 hv hm hG h2 h3 h4 K hK hk0 hk1
end Go.Proofs.Ytkfggilildiflac
