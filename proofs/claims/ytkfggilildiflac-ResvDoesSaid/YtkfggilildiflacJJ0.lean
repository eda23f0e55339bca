/-
  Laws that the claims of this seat use, of several texts in one: ResvDo, ResvDo2. No condition of their own.
-/
import Derived.Test.YtkfggilildiflacJI0

namespace Go.Proofs.Ytkfggilildiflac
open Go.ChangeShapes Go.WideShapes Go.ChangeAt Go.RowKit
attribute [local irreducible] wpList wpListIn Oper.quietAt wpM
theorem goodRef_d {B : Bool} {l : List Rg} {h t g : Int} {s : Bool} (hB : decide (goodR ⟨l, h, t, s, g⟩) = B) (v : Value) (w0 : World) (hv : RegsAt w0 v l) (hm : l.length ≤ 1000000) :
    Calls Try.prog 15 #[.agg #[v, .int .i64 h, .int .i64 t, .bool s, .int .i64 g]] w0 fun e w' => e = .returned (.bool B) ∧ Below w0.heap.size w0 w' := by
  subst hB; exact goodRef_any l h t g s v w0 hv hm
theorem holdsRef_d {B : Bool} {l : List Rg} {h t g who : Int} {s : Bool} (hB : decide (holdsR ⟨l, h, t, s, g⟩ who) = B) (v : Value) (w0 : World) (hv : RegsAt w0 v l) (hm : l.length ≤ 1000000) :
    Calls Try.prog 19 #[.agg #[v, .int .i64 h, .int .i64 t, .bool s, .int .i64 g], .int .i64 who] w0 fun e w' => e = .returned (.bool B) ∧ Below w0.heap.size w0 w' := by
  subst hB; exact holdsRef_any l h t g who s v w0 hv hm
/-- What the document's Do yields. -/
def DoRef (l : List Rg) (v : Value) (h t g : Int) (s : Bool) (op who key new typ : Int) (st : Bool) (w0 : World) (x : Rv) (er : Int) : Prop :=
    Calls Try.prog 11 #[.agg #[v, .int .i64 h, .int .i64 t, .bool s, .int .i64 g], .agg #[.int .i64 op, .int .i64 who, .int .i64 key, .int .i64 new, .int .i64 typ, .bool st]] w0 fun e w' => ∃ sv, e = .returned (.tuple #[.agg #[sv, .int .i64 x.holder, .int .i64 x.typ, .bool x.stays, .int .i64 x.gen], .int .i64 er]) ∧ RegsAt w' sv x.regs ∧ Below w0.heap.size w0 w'
set_option maxRecDepth 100000 in
set_option maxHeartbeats 16000000 in
theorem doRef_form (l : List Rg) (v : Value) (h t g : Int) (s : Bool) (op who key new typ : Int) (st : Bool) (w0 : World) (hv : RegsAt w0 v l) (hm : l.length ≤ 100) (hn : ¬ (goodR ⟨l, h, t, s, g⟩ ∧ soundR ⟨op, who, key, new, typ, st⟩)) : DoRef l v h t g s op who key new typ st w0 nobody 2 := by
  unfold DoRef
  obtain ⟨p1, c1, rfl, _⟩ := hv.slice
  have hS := St.start w0
  obtain ⟨G, hG⟩ : ∃ G, decide (goodR ⟨l, h, t, s, g⟩) = G := ⟨_, rfl⟩
  cases G with
  | false =>
    clear hn
    by_cases hn3 : op = 2 ∨ op = 3 ∨ op = 5
    all_goals
      go_enter Try.func11, Try.ntmps11
      repeat' (first | ((with_reducible refine Ad ?_); first | ((first | refine Bn Aa ?_ | refine Bm Aa ?_ | refine Az Aa ?_ | refine Bf Aa Ab hS ?_ | refine Bi Aa Ab hS ?_ | refine Ag Aa ?_ | refine Af Aa ?_ | refine Bs Aa ?_ | refine Bx Aa ?_ | refine Ao Aa ?_ | refine Bw Aa ?_ | refine Br Aa ?_ | refine Be Aa ?_ | refine Bg Aa ?_ | refine Bv Aa (fun hc => ?_) (fun hc => ?_) | refine Ay Aa ?_ | refine Am Aa ?_ | refine Aw Aa ?_ | refine Ap Aa ?_ | refine Ah Aa ?_ | refine Ax Aa ?_ | refine Ar Aa ?_ | refine Aj Aa ?_ | refine Ae Aa ?_ | refine Ai Aa ?_ | refine Bp Aa ?_ | refine Bo Aa ?_ | refine Bu Aa ?_ | refine Bc Aa ?_ | refine As Aa ?_ | refine Ak Aa ?_ | refine Aq Aa ?_ | refine Bj Aa ?_ | refine Bk Aa ?_) <;> refine Ac ?_) | ((first | refine Bh Aa Ab hS ?_ | refine Bt Aa Ab hS ?_ | refine Ba Aa Ab hS ?_ | refine Bd Aa Ab hS ?_); clear hS; intro b w hS; refine Ac ?_) | ((first | refine Av Aa Ab hS ?_ | refine Au Aa Ab hS ?_ | refine Bb Aa Ab hS ?_); clear hS; intro w hS; refine Ac ?_) | (refine Cb Aa Ab hS (goodRef_d hG _ _ (hv.below hS.below) (by omega)) ?_; clear hS; intro w hS; refine Ac ?_) | (refine Cb Aa Ab hS (nobodyRef_any _) ?_; clear hS; intro w hS; refine Ac ?_)) | ((fail_if_success (with_reducible refine Ad ?_)); first | go_step | go_step3 | rw [Exit.noGoto_normal] | rw [Exit.noGoto_ret] | rw [Exit.noGoto_exit]))
      all_goals first | exact De (n := 5) Try.results11 (by kernel_rfl) (.inl rfl) _ _ _ _ rfl rfl (hS.blk 0 rfl) (by rfl) ⟨_, rfl, regsAt_nil _, hS.below⟩ | (exfalso; omega)
  | true =>
    have hns : ¬ ((1 ≤ op ∧ op ≤ 6) ∧ 0 ≤ who ∧ 0 ≤ key ∧ 0 ≤ new ∧ ((op = 2 ∨ op = 3 ∨ op = 5) → 1 ≤ typ ∧ typ ≤ 6)) := fun hx => hn ⟨of_decide_eq_true hG, hx⟩
    clear hn
    go_enter Try.func11, Try.ntmps11
    repeat' (first | ((with_reducible refine Ad ?_); first | ((first | refine Bn Aa ?_ | refine Bm Aa ?_ | refine Az Aa ?_ | refine Bf Aa Ab hS ?_ | refine Bi Aa Ab hS ?_ | refine Ag Aa ?_ | refine Af Aa ?_ | refine Bs Aa ?_ | refine Bx Aa ?_ | refine Ao Aa ?_ | refine Bw Aa ?_ | refine Br Aa ?_ | refine Be Aa ?_ | refine Bg Aa ?_ | refine Bv Aa (fun hc => ?_) (fun hc => ?_) | refine Ay Aa ?_ | refine Am Aa ?_ | refine Aw Aa ?_ | refine Ap Aa ?_ | refine Ah Aa ?_ | refine Ax Aa ?_ | refine Ar Aa ?_ | refine Aj Aa ?_ | refine Ae Aa ?_ | refine Ai Aa ?_ | refine Bp Aa ?_ | refine Bo Aa ?_ | refine Bu Aa ?_ | refine Bc Aa ?_ | refine As Aa ?_ | refine Ak Aa ?_ | refine Aq Aa ?_ | refine Bj Aa ?_ | refine Bk Aa ?_) <;> refine Ac ?_) | ((first | refine Bh Aa Ab hS ?_ | refine Bt Aa Ab hS ?_ | refine Ba Aa Ab hS ?_ | refine Bd Aa Ab hS ?_); clear hS; intro b w hS; refine Ac ?_) | ((first | refine Av Aa Ab hS ?_ | refine Au Aa Ab hS ?_ | refine Bb Aa Ab hS ?_); clear hS; intro w hS; refine Ac ?_) | (refine Cb Aa Ab hS (goodRef_d hG _ _ (hv.below hS.below) (by omega)) ?_; clear hS; intro w hS; refine Ac ?_) | (refine Cb Aa Ab hS (nobodyRef_any _) ?_; clear hS; intro w hS; refine Ac ?_)) | ((fail_if_success (with_reducible refine Ad ?_)); first | go_step | go_step3 | rw [Exit.noGoto_normal] | rw [Exit.noGoto_ret] | rw [Exit.noGoto_exit]))
    all_goals first | (exfalso; clear hS; omega; done) | exact De (n := 5) Try.results11 (by kernel_rfl) (.inl rfl) _ _ _ _ rfl rfl (hS.blk 0 rfl) (by rfl) ⟨_, rfl, regsAt_nil _, hS.below⟩
end Go.Proofs.Ytkfggilildiflac

namespace Go.Proofs.Ytkfggilildiflac
open Go.ChangeShapes Go.WideShapes Go.ChangeAt Go.RowKit
attribute [local irreducible] wpList wpListIn Oper.quietAt wpM
set_option maxRecDepth 100000 in
set_option maxHeartbeats 16000000 in
theorem doRef_unk1 (l : List Rg) (v : Value) (h t g : Int) (s : Bool) (who key new typ : Int) (st : Bool) (w0 : World) (hv : RegsAt w0 v l) (hm : l.length ≤ 100) (hG : decide (goodR ⟨l, h, t, s, g⟩) = true) (h2 : 0 ≤ who) (h3 : 0 ≤ key) (h4 : 0 ≤ new) (K : Int) (hK : keyOf l who = K) (hk : ¬ K = key) : DoRef l v h t g s 1 who key new typ st w0 nobody 9 := by
  unfold DoRef
  obtain ⟨p1, c1, rfl, _⟩ := hv.slice
  have hS := St.start w0
  go_enter Try.func11, Try.ntmps11
  repeat' (first | ((with_reducible refine Ad ?_); first | ((first | refine Bn Aa ?_ | refine Bm Aa ?_ | refine Az Aa ?_ | refine Bf Aa Ab hS ?_ | refine Bi Aa Ab hS ?_ | refine Ag Aa ?_ | refine Af Aa ?_ | refine Bs Aa ?_ | refine Bx Aa ?_ | refine Ao Aa ?_ | refine Bw Aa ?_ | refine Br Aa ?_ | refine Be Aa ?_ | refine Bg Aa ?_ | refine Bv Aa (fun hc => ?_) (fun hc => ?_) | refine Ay Aa ?_ | refine Am Aa ?_ | refine Aw Aa ?_ | refine Ap Aa ?_ | refine Ah Aa ?_ | refine Ax Aa ?_ | refine Ar Aa ?_ | refine Aj Aa ?_ | refine Ae Aa ?_ | refine Ai Aa ?_ | refine Bp Aa ?_ | refine Bo Aa ?_ | refine Bu Aa ?_ | refine Bc Aa ?_ | refine As Aa ?_ | refine Ak Aa ?_ | refine Aq Aa ?_ | refine Bj Aa ?_ | refine Bk Aa ?_) <;> refine Ac ?_) | ((first | refine Bh Aa Ab hS ?_ | refine Bt Aa Ab hS ?_ | refine Ba Aa Ab hS ?_ | refine Bd Aa Ab hS ?_); clear hS; intro b w hS; refine Ac ?_) | ((first | refine Av Aa Ab hS ?_ | refine Au Aa Ab hS ?_ | refine Bb Aa Ab hS ?_); clear hS; intro w hS; refine Ac ?_) | (refine Cb Aa Ab hS (goodRef_d hG _ _ (hv.below hS.below) (by omega)) ?_; clear hS; intro w hS; refine Ac ?_) | (refine Cb Aa Ab hS (key_c hK _ _ _ _ _ _ (hv.below hS.below) (by omega)) ?_; clear hS; intro w hS; refine Ac ?_) | (refine Cb Aa Ab hS (nobodyRef_any _) ?_; clear hS; intro w hS; refine Ac ?_)) | ((fail_if_success (with_reducible refine Ad ?_)); first | go_step | go_step3 | rw [Exit.noGoto_normal] | rw [Exit.noGoto_ret] | rw [Exit.noGoto_exit]))
  exact De (n := 5) Try.results11 (by kernel_rfl) (.inl rfl) _ _ _ _ rfl rfl (hS.blk 0 rfl) (by rfl) ⟨_, rfl, regsAt_nil _, hS.below⟩
set_option maxRecDepth 100000 in
set_option maxHeartbeats 16000000 in
theorem doRef_unk2a (l : List Rg) (v : Value) (h t g : Int) (s : Bool) (who key new typ : Int) (st : Bool) (w0 : World) (hv : RegsAt w0 v l) (hm : l.length ≤ 100) (hG : decide (goodR ⟨l, h, t, s, g⟩) = true) (h2 : 0 ≤ who) (h3 : 0 ≤ key) (h4 : 0 ≤ new) (h5 : 1 ≤ typ) (h6 : typ ≤ 6) (K : Int) (hK : keyOf l who = K) (hk : K = 0) : DoRef l v h t g s 2 who key new typ st w0 nobody 9 := by
  unfold DoRef
  obtain ⟨p1, c1, rfl, _⟩ := hv.slice
  have hS := St.start w0
  go_enter Try.func11, Try.ntmps11
  repeat' (first | ((with_reducible refine Ad ?_); first | ((first | refine Bn Aa ?_ | refine Bm Aa ?_ | refine Az Aa ?_ | refine Bf Aa Ab hS ?_ | refine Bi Aa Ab hS ?_ | refine Ag Aa ?_ | refine Af Aa ?_ | refine Bs Aa ?_ | refine Bx Aa ?_ | refine Ao Aa ?_ | refine Bw Aa ?_ | refine Br Aa ?_ | refine Be Aa ?_ | refine Bg Aa ?_ | refine Bv Aa (fun hc => ?_) (fun hc => ?_) | refine Ay Aa ?_ | refine Am Aa ?_ | refine Aw Aa ?_ | refine Ap Aa ?_ | refine Ah Aa ?_ | refine Ax Aa ?_ | refine Ar Aa ?_ | refine Aj Aa ?_ | refine Ae Aa ?_ | refine Ai Aa ?_ | refine Bp Aa ?_ | refine Bo Aa ?_ | refine Bu Aa ?_ | refine Bc Aa ?_ | refine As Aa ?_ | refine Ak Aa ?_ | refine Aq Aa ?_ | refine Bj Aa ?_ | refine Bk Aa ?_) <;> refine Ac ?_) | ((first | refine Bh Aa Ab hS ?_ | refine Bt Aa Ab hS ?_ | refine Ba Aa Ab hS ?_ | refine Bd Aa Ab hS ?_); clear hS; intro b w hS; refine Ac ?_) | ((first | refine Av Aa Ab hS ?_ | refine Au Aa Ab hS ?_ | refine Bb Aa Ab hS ?_); clear hS; intro w hS; refine Ac ?_) | (refine Cb Aa Ab hS (goodRef_d hG _ _ (hv.below hS.below) (by omega)) ?_; clear hS; intro w hS; refine Ac ?_) | (refine Cb Aa Ab hS (key_c hK _ _ _ _ _ _ (hv.below hS.below) (by omega)) ?_; clear hS; intro w hS; refine Ac ?_) | (refine Cb Aa Ab hS (nobodyRef_any _) ?_; clear hS; intro w hS; refine Ac ?_)) | ((fail_if_success (with_reducible refine Ad ?_)); first | go_step | go_step3 | rw [Exit.noGoto_normal] | rw [Exit.noGoto_ret] | rw [Exit.noGoto_exit]))
  exact De (n := 5) Try.results11 (by kernel_rfl) (.inl rfl) _ _ _ _ rfl rfl (hS.blk 0 rfl) (by rfl) ⟨_, rfl, regsAt_nil _, hS.below⟩
set_option maxRecDepth 100000 in
set_option maxHeartbeats 16000000 in
theorem doRef_unk2b (l : List Rg) (v : Value) (h t g : Int) (s : Bool) (who key new typ : Int) (st : Bool) (w0 : World) (hv : RegsAt w0 v l) (hm : l.length ≤ 100) (hG : decide (goodR ⟨l, h, t, s, g⟩) = true) (h2 : 0 ≤ who) (h3 : 0 ≤ key) (h4 : 0 ≤ new) (h5 : 1 ≤ typ) (h6 : typ ≤ 6) (K : Int) (hk0 : ¬ K = 0) (hK : keyOf l who = K) (hk : ¬ K = key) : DoRef l v h t g s 2 who key new typ st w0 nobody 9 := by
  unfold DoRef
  obtain ⟨p1, c1, rfl, _⟩ := hv.slice
  have hS := St.start w0
  go_enter Try.func11, Try.ntmps11
  repeat' (first | ((with_reducible refine Ad ?_); first | ((first | refine Bn Aa ?_ | refine Bm Aa ?_ | refine Az Aa ?_ | refine Bf Aa Ab hS ?_ | refine Bi Aa Ab hS ?_ | refine Ag Aa ?_ | refine Af Aa ?_ | refine Bs Aa ?_ | refine Bx Aa ?_ | refine Ao Aa ?_ | refine Bw Aa ?_ | refine Br Aa ?_ | refine Be Aa ?_ | refine Bg Aa ?_ | refine Bv Aa (fun hc => ?_) (fun hc => ?_) | refine Ay Aa ?_ | refine Am Aa ?_ | refine Aw Aa ?_ | refine Ap Aa ?_ | refine Ah Aa ?_ | refine Ax Aa ?_ | refine Ar Aa ?_ | refine Aj Aa ?_ | refine Ae Aa ?_ | refine Ai Aa ?_ | refine Bp Aa ?_ | refine Bo Aa ?_ | refine Bu Aa ?_ | refine Bc Aa ?_ | refine As Aa ?_ | refine Ak Aa ?_ | refine Aq Aa ?_ | refine Bj Aa ?_ | refine Bk Aa ?_) <;> refine Ac ?_) | ((first | refine Bh Aa Ab hS ?_ | refine Bt Aa Ab hS ?_ | refine Ba Aa Ab hS ?_ | refine Bd Aa Ab hS ?_); clear hS; intro b w hS; refine Ac ?_) | ((first | refine Av Aa Ab hS ?_ | refine Au Aa Ab hS ?_ | refine Bb Aa Ab hS ?_); clear hS; intro w hS; refine Ac ?_) | (refine Cb Aa Ab hS (goodRef_d hG _ _ (hv.below hS.below) (by omega)) ?_; clear hS; intro w hS; refine Ac ?_) | (refine Cb Aa Ab hS (key_c hK _ _ _ _ _ _ (hv.below hS.below) (by omega)) ?_; clear hS; intro w hS; refine Ac ?_) | (refine Cb Aa Ab hS (nobodyRef_any _) ?_; clear hS; intro w hS; refine Ac ?_)) | ((fail_if_success (with_reducible refine Ad ?_)); first | go_step | go_step3 | rw [Exit.noGoto_normal] | rw [Exit.noGoto_ret] | rw [Exit.noGoto_exit]))
  exact De (n := 5) Try.results11 (by kernel_rfl) (.inl rfl) _ _ _ _ rfl rfl (hS.blk 0 rfl) (by rfl) ⟨_, rfl, regsAt_nil _, hS.below⟩
set_option maxRecDepth 100000 in
set_option maxHeartbeats 16000000 in
theorem doRef_unk3a (l : List Rg) (v : Value) (h t g : Int) (s : Bool) (who key new typ : Int) (st : Bool) (w0 : World) (hv : RegsAt w0 v l) (hm : l.length ≤ 100) (hG : decide (goodR ⟨l, h, t, s, g⟩) = true) (h2 : 0 ≤ who) (h3 : 0 ≤ key) (h4 : 0 ≤ new) (h5 : 1 ≤ typ) (h6 : typ ≤ 6) (K : Int) (hK : keyOf l who = K) (hk : K = 0) : DoRef l v h t g s 3 who key new typ st w0 nobody 9 := by
  unfold DoRef
  obtain ⟨p1, c1, rfl, _⟩ := hv.slice
  have hS := St.start w0
  go_enter Try.func11, Try.ntmps11
  repeat' (first | ((with_reducible refine Ad ?_); first | ((first | refine Bn Aa ?_ | refine Bm Aa ?_ | refine Az Aa ?_ | refine Bf Aa Ab hS ?_ | refine Bi Aa Ab hS ?_ | refine Ag Aa ?_ | refine Af Aa ?_ | refine Bs Aa ?_ | refine Bx Aa ?_ | refine Ao Aa ?_ | refine Bw Aa ?_ | refine Br Aa ?_ | refine Be Aa ?_ | refine Bg Aa ?_ | refine Bv Aa (fun hc => ?_) (fun hc => ?_) | refine Ay Aa ?_ | refine Am Aa ?_ | refine Aw Aa ?_ | refine Ap Aa ?_ | refine Ah Aa ?_ | refine Ax Aa ?_ | refine Ar Aa ?_ | refine Aj Aa ?_ | refine Ae Aa ?_ | refine Ai Aa ?_ | refine Bp Aa ?_ | refine Bo Aa ?_ | refine Bu Aa ?_ | refine Bc Aa ?_ | refine As Aa ?_ | refine Ak Aa ?_ | refine Aq Aa ?_ | refine Bj Aa ?_ | refine Bk Aa ?_) <;> refine Ac ?_) | ((first | refine Bh Aa Ab hS ?_ | refine Bt Aa Ab hS ?_ | refine Ba Aa Ab hS ?_ | refine Bd Aa Ab hS ?_); clear hS; intro b w hS; refine Ac ?_) | ((first | refine Av Aa Ab hS ?_ | refine Au Aa Ab hS ?_ | refine Bb Aa Ab hS ?_); clear hS; intro w hS; refine Ac ?_) | (refine Cb Aa Ab hS (goodRef_d hG _ _ (hv.below hS.below) (by omega)) ?_; clear hS; intro w hS; refine Ac ?_) | (refine Cb Aa Ab hS (key_c hK _ _ _ _ _ _ (hv.below hS.below) (by omega)) ?_; clear hS; intro w hS; refine Ac ?_) | (refine Cb Aa Ab hS (nobodyRef_any _) ?_; clear hS; intro w hS; refine Ac ?_)) | ((fail_if_success (with_reducible refine Ad ?_)); first | go_step | go_step3 | rw [Exit.noGoto_normal] | rw [Exit.noGoto_ret] | rw [Exit.noGoto_exit]))
  exact De (n := 5) Try.results11 (by kernel_rfl) (.inl rfl) _ _ _ _ rfl rfl (hS.blk 0 rfl) (by rfl) ⟨_, rfl, regsAt_nil _, hS.below⟩
set_option maxRecDepth 100000 in
set_option maxHeartbeats 16000000 in
theorem doRef_unk3b (l : List Rg) (v : Value) (h t g : Int) (s : Bool) (who key new typ : Int) (st : Bool) (w0 : World) (hv : RegsAt w0 v l) (hm : l.length ≤ 100) (hG : decide (goodR ⟨l, h, t, s, g⟩) = true) (h2 : 0 ≤ who) (h3 : 0 ≤ key) (h4 : 0 ≤ new) (h5 : 1 ≤ typ) (h6 : typ ≤ 6) (K : Int) (hk0 : ¬ K = 0) (hK : keyOf l who = K) (hk : ¬ K = key) : DoRef l v h t g s 3 who key new typ st w0 nobody 9 := by
  unfold DoRef
  obtain ⟨p1, c1, rfl, _⟩ := hv.slice
  have hS := St.start w0
  go_enter Try.func11, Try.ntmps11
  repeat' (first | ((with_reducible refine Ad ?_); first | ((first | refine Bn Aa ?_ | refine Bm Aa ?_ | refine Az Aa ?_ | refine Bf Aa Ab hS ?_ | refine Bi Aa Ab hS ?_ | refine Ag Aa ?_ | refine Af Aa ?_ | refine Bs Aa ?_ | refine Bx Aa ?_ | refine Ao Aa ?_ | refine Bw Aa ?_ | refine Br Aa ?_ | refine Be Aa ?_ | refine Bg Aa ?_ | refine Bv Aa (fun hc => ?_) (fun hc => ?_) | refine Ay Aa ?_ | refine Am Aa ?_ | refine Aw Aa ?_ | refine Ap Aa ?_ | refine Ah Aa ?_ | refine Ax Aa ?_ | refine Ar Aa ?_ | refine Aj Aa ?_ | refine Ae Aa ?_ | refine Ai Aa ?_ | refine Bp Aa ?_ | refine Bo Aa ?_ | refine Bu Aa ?_ | refine Bc Aa ?_ | refine As Aa ?_ | refine Ak Aa ?_ | refine Aq Aa ?_ | refine Bj Aa ?_ | refine Bk Aa ?_) <;> refine Ac ?_) | ((first | refine Bh Aa Ab hS ?_ | refine Bt Aa Ab hS ?_ | refine Ba Aa Ab hS ?_ | refine Bd Aa Ab hS ?_); clear hS; intro b w hS; refine Ac ?_) | ((first | refine Av Aa Ab hS ?_ | refine Au Aa Ab hS ?_ | refine Bb Aa Ab hS ?_); clear hS; intro w hS; refine Ac ?_) | (refine Cb Aa Ab hS (goodRef_d hG _ _ (hv.below hS.below) (by omega)) ?_; clear hS; intro w hS; refine Ac ?_) | (refine Cb Aa Ab hS (key_c hK _ _ _ _ _ _ (hv.below hS.below) (by omega)) ?_; clear hS; intro w hS; refine Ac ?_) | (refine Cb Aa Ab hS (nobodyRef_any _) ?_; clear hS; intro w hS; refine Ac ?_)) | ((fail_if_success (with_reducible refine Ad ?_)); first | go_step | go_step3 | rw [Exit.noGoto_normal] | rw [Exit.noGoto_ret] | rw [Exit.noGoto_exit]))
  exact De (n := 5) Try.results11 (by kernel_rfl) (.inl rfl) _ _ _ _ rfl rfl (hS.blk 0 rfl) (by rfl) ⟨_, rfl, regsAt_nil _, hS.below⟩
set_option maxRecDepth 100000 in
set_option maxHeartbeats 16000000 in
theorem doRef_unk4a (l : List Rg) (v : Value) (h t g : Int) (s : Bool) (who key new typ : Int) (st : Bool) (w0 : World) (hv : RegsAt w0 v l) (hm : l.length ≤ 100) (hG : decide (goodR ⟨l, h, t, s, g⟩) = true) (h2 : 0 ≤ who) (h3 : 0 ≤ key) (h4 : 0 ≤ new) (K : Int) (hK : keyOf l who = K) (hk : K = 0) : DoRef l v h t g s 4 who key new typ st w0 nobody 9 := by
  unfold DoRef
  obtain ⟨p1, c1, rfl, _⟩ := hv.slice
  have hS := St.start w0
  go_enter Try.func11, Try.ntmps11
  repeat' (first | ((with_reducible refine Ad ?_); first | ((first | refine Bn Aa ?_ | refine Bm Aa ?_ | refine Az Aa ?_ | refine Bf Aa Ab hS ?_ | refine Bi Aa Ab hS ?_ | refine Ag Aa ?_ | refine Af Aa ?_ | refine Bs Aa ?_ | refine Bx Aa ?_ | refine Ao Aa ?_ | refine Bw Aa ?_ | refine Br Aa ?_ | refine Be Aa ?_ | refine Bg Aa ?_ | refine Bv Aa (fun hc => ?_) (fun hc => ?_) | refine Ay Aa ?_ | refine Am Aa ?_ | refine Aw Aa ?_ | refine Ap Aa ?_ | refine Ah Aa ?_ | refine Ax Aa ?_ | refine Ar Aa ?_ | refine Aj Aa ?_ | refine Ae Aa ?_ | refine Ai Aa ?_ | refine Bp Aa ?_ | refine Bo Aa ?_ | refine Bu Aa ?_ | refine Bc Aa ?_ | refine As Aa ?_ | refine Ak Aa ?_ | refine Aq Aa ?_ | refine Bj Aa ?_ | refine Bk Aa ?_) <;> refine Ac ?_) | ((first | refine Bh Aa Ab hS ?_ | refine Bt Aa Ab hS ?_ | refine Ba Aa Ab hS ?_ | refine Bd Aa Ab hS ?_); clear hS; intro b w hS; refine Ac ?_) | ((first | refine Av Aa Ab hS ?_ | refine Au Aa Ab hS ?_ | refine Bb Aa Ab hS ?_); clear hS; intro w hS; refine Ac ?_) | (refine Cb Aa Ab hS (goodRef_d hG _ _ (hv.below hS.below) (by omega)) ?_; clear hS; intro w hS; refine Ac ?_) | (refine Cb Aa Ab hS (key_c hK _ _ _ _ _ _ (hv.below hS.below) (by omega)) ?_; clear hS; intro w hS; refine Ac ?_) | (refine Cb Aa Ab hS (nobodyRef_any _) ?_; clear hS; intro w hS; refine Ac ?_)) | ((fail_if_success (with_reducible refine Ad ?_)); first | go_step | go_step3 | rw [Exit.noGoto_normal] | rw [Exit.noGoto_ret] | rw [Exit.noGoto_exit]))
  exact De (n := 5) Try.results11 (by kernel_rfl) (.inl rfl) _ _ _ _ rfl rfl (hS.blk 0 rfl) (by rfl) ⟨_, rfl, regsAt_nil _, hS.below⟩
set_option maxRecDepth 100000 in
set_option maxHeartbeats 16000000 in
theorem doRef_unk4b (l : List Rg) (v : Value) (h t g : Int) (s : Bool) (who key new typ : Int) (st : Bool) (w0 : World) (hv : RegsAt w0 v l) (hm : l.length ≤ 100) (hG : decide (goodR ⟨l, h, t, s, g⟩) = true) (h2 : 0 ≤ who) (h3 : 0 ≤ key) (h4 : 0 ≤ new) (K : Int) (hk0 : ¬ K = 0) (hK : keyOf l who = K) (hk : ¬ K = key) : DoRef l v h t g s 4 who key new typ st w0 nobody 9 := by
  unfold DoRef
  obtain ⟨p1, c1, rfl, _⟩ := hv.slice
  have hS := St.start w0
  go_enter Try.func11, Try.ntmps11
  repeat' (first | ((with_reducible refine Ad ?_); first | ((first | refine Bn Aa ?_ | refine Bm Aa ?_ | refine Az Aa ?_ | refine Bf Aa Ab hS ?_ | refine Bi Aa Ab hS ?_ | refine Ag Aa ?_ | refine Af Aa ?_ | refine Bs Aa ?_ | refine Bx Aa ?_ | refine Ao Aa ?_ | refine Bw Aa ?_ | refine Br Aa ?_ | refine Be Aa ?_ | refine Bg Aa ?_ | refine Bv Aa (fun hc => ?_) (fun hc => ?_) | refine Ay Aa ?_ | refine Am Aa ?_ | refine Aw Aa ?_ | refine Ap Aa ?_ | refine Ah Aa ?_ | refine Ax Aa ?_ | refine Ar Aa ?_ | refine Aj Aa ?_ | refine Ae Aa ?_ | refine Ai Aa ?_ | refine Bp Aa ?_ | refine Bo Aa ?_ | refine Bu Aa ?_ | refine Bc Aa ?_ | refine As Aa ?_ | refine Ak Aa ?_ | refine Aq Aa ?_ | refine Bj Aa ?_ | refine Bk Aa ?_) <;> refine Ac ?_) | ((first | refine Bh Aa Ab hS ?_ | refine Bt Aa Ab hS ?_ | refine Ba Aa Ab hS ?_ | refine Bd Aa Ab hS ?_); clear hS; intro b w hS; refine Ac ?_) | ((first | refine Av Aa Ab hS ?_ | refine Au Aa Ab hS ?_ | refine Bb Aa Ab hS ?_); clear hS; intro w hS; refine Ac ?_) | (refine Cb Aa Ab hS (goodRef_d hG _ _ (hv.below hS.below) (by omega)) ?_; clear hS; intro w hS; refine Ac ?_) | (refine Cb Aa Ab hS (key_c hK _ _ _ _ _ _ (hv.below hS.below) (by omega)) ?_; clear hS; intro w hS; refine Ac ?_) | (refine Cb Aa Ab hS (nobodyRef_any _) ?_; clear hS; intro w hS; refine Ac ?_)) | ((fail_if_success (with_reducible refine Ad ?_)); first | go_step | go_step3 | rw [Exit.noGoto_normal] | rw [Exit.noGoto_ret] | rw [Exit.noGoto_exit]))
  exact De (n := 5) Try.results11 (by kernel_rfl) (.inl rfl) _ _ _ _ rfl rfl (hS.blk 0 rfl) (by rfl) ⟨_, rfl, regsAt_nil _, hS.below⟩
set_option maxRecDepth 100000 in
set_option maxHeartbeats 16000000 in
theorem doRef_unk5a (l : List Rg) (v : Value) (h t g : Int) (s : Bool) (who key new typ : Int) (st : Bool) (w0 : World) (hv : RegsAt w0 v l) (hm : l.length ≤ 100) (hG : decide (goodR ⟨l, h, t, s, g⟩) = true) (h2 : 0 ≤ who) (h3 : 0 ≤ key) (h4 : 0 ≤ new) (h5 : 1 ≤ typ) (h6 : typ ≤ 6) (K : Int) (hK : keyOf l who = K) (hk : K = 0) : DoRef l v h t g s 5 who key new typ st w0 nobody 9 := by
  unfold DoRef
  obtain ⟨p1, c1, rfl, _⟩ := hv.slice
  have hS := St.start w0
  go_enter Try.func11, Try.ntmps11
  repeat' (first | ((with_reducible refine Ad ?_); first | ((first | refine Bn Aa ?_ | refine Bm Aa ?_ | refine Az Aa ?_ | refine Bf Aa Ab hS ?_ | refine Bi Aa Ab hS ?_ | refine Ag Aa ?_ | refine Af Aa ?_ | refine Bs Aa ?_ | refine Bx Aa ?_ | refine Ao Aa ?_ | refine Bw Aa ?_ | refine Br Aa ?_ | refine Be Aa ?_ | refine Bg Aa ?_ | refine Bv Aa (fun hc => ?_) (fun hc => ?_) | refine Ay Aa ?_ | refine Am Aa ?_ | refine Aw Aa ?_ | refine Ap Aa ?_ | refine Ah Aa ?_ | refine Ax Aa ?_ | refine Ar Aa ?_ | refine Aj Aa ?_ | refine Ae Aa ?_ | refine Ai Aa ?_ | refine Bp Aa ?_ | refine Bo Aa ?_ | refine Bu Aa ?_ | refine Bc Aa ?_ | refine As Aa ?_ | refine Ak Aa ?_ | refine Aq Aa ?_ | refine Bj Aa ?_ | refine Bk Aa ?_) <;> refine Ac ?_) | ((first | refine Bh Aa Ab hS ?_ | refine Bt Aa Ab hS ?_ | refine Ba Aa Ab hS ?_ | refine Bd Aa Ab hS ?_); clear hS; intro b w hS; refine Ac ?_) | ((first | refine Av Aa Ab hS ?_ | refine Au Aa Ab hS ?_ | refine Bb Aa Ab hS ?_); clear hS; intro w hS; refine Ac ?_) | (refine Cb Aa Ab hS (goodRef_d hG _ _ (hv.below hS.below) (by omega)) ?_; clear hS; intro w hS; refine Ac ?_) | (refine Cb Aa Ab hS (key_c hK _ _ _ _ _ _ (hv.below hS.below) (by omega)) ?_; clear hS; intro w hS; refine Ac ?_) | (refine Cb Aa Ab hS (nobodyRef_any _) ?_; clear hS; intro w hS; refine Ac ?_)) | ((fail_if_success (with_reducible refine Ad ?_)); first | go_step | go_step3 | rw [Exit.noGoto_normal] | rw [Exit.noGoto_ret] | rw [Exit.noGoto_exit]))
  exact De (n := 5) Try.results11 (by kernel_rfl) (.inl rfl) _ _ _ _ rfl rfl (hS.blk 0 rfl) (by rfl) ⟨_, rfl, regsAt_nil _, hS.below⟩
set_option maxRecDepth 100000 in
set_option maxHeartbeats 16000000 in
theorem doRef_unk5b (l : List Rg) (v : Value) (h t g : Int) (s : Bool) (who key new typ : Int) (st : Bool) (w0 : World) (hv : RegsAt w0 v l) (hm : l.length ≤ 100) (hG : decide (goodR ⟨l, h, t, s, g⟩) = true) (h2 : 0 ≤ who) (h3 : 0 ≤ key) (h4 : 0 ≤ new) (h5 : 1 ≤ typ) (h6 : typ ≤ 6) (K : Int) (hk0 : ¬ K = 0) (hK : keyOf l who = K) (hk : ¬ K = key) : DoRef l v h t g s 5 who key new typ st w0 nobody 9 := by
  unfold DoRef
  obtain ⟨p1, c1, rfl, _⟩ := hv.slice
  have hS := St.start w0
  go_enter Try.func11, Try.ntmps11
  repeat' (first | ((with_reducible refine Ad ?_); first | ((first | refine Bn Aa ?_ | refine Bm Aa ?_ | refine Az Aa ?_ | refine Bf Aa Ab hS ?_ | refine Bi Aa Ab hS ?_ | refine Ag Aa ?_ | refine Af Aa ?_ | refine Bs Aa ?_ | refine Bx Aa ?_ | refine Ao Aa ?_ | refine Bw Aa ?_ | refine Br Aa ?_ | refine Be Aa ?_ | refine Bg Aa ?_ | refine Bv Aa (fun hc => ?_) (fun hc => ?_) | refine Ay Aa ?_ | refine Am Aa ?_ | refine Aw Aa ?_ | refine Ap Aa ?_ | refine Ah Aa ?_ | refine Ax Aa ?_ | refine Ar Aa ?_ | refine Aj Aa ?_ | refine Ae Aa ?_ | refine Ai Aa ?_ | refine Bp Aa ?_ | refine Bo Aa ?_ | refine Bu Aa ?_ | refine Bc Aa ?_ | refine As Aa ?_ | refine Ak Aa ?_ | refine Aq Aa ?_ | refine Bj Aa ?_ | refine Bk Aa ?_) <;> refine Ac ?_) | ((first | refine Bh Aa Ab hS ?_ | refine Bt Aa Ab hS ?_ | refine Ba Aa Ab hS ?_ | refine Bd Aa Ab hS ?_); clear hS; intro b w hS; refine Ac ?_) | ((first | refine Av Aa Ab hS ?_ | refine Au Aa Ab hS ?_ | refine Bb Aa Ab hS ?_); clear hS; intro w hS; refine Ac ?_) | (refine Cb Aa Ab hS (goodRef_d hG _ _ (hv.below hS.below) (by omega)) ?_; clear hS; intro w hS; refine Ac ?_) | (refine Cb Aa Ab hS (key_c hK _ _ _ _ _ _ (hv.below hS.below) (by omega)) ?_; clear hS; intro w hS; refine Ac ?_) | (refine Cb Aa Ab hS (nobodyRef_any _) ?_; clear hS; intro w hS; refine Ac ?_)) | ((fail_if_success (with_reducible refine Ad ?_)); first | go_step | go_step3 | rw [Exit.noGoto_normal] | rw [Exit.noGoto_ret] | rw [Exit.noGoto_exit]))
  exact De (n := 5) Try.results11 (by kernel_rfl) (.inl rfl) _ _ _ _ rfl rfl (hS.blk 0 rfl) (by rfl) ⟨_, rfl, regsAt_nil _, hS.below⟩
theorem doRef_unknown (l : List Rg) (v : Value) (h t g : Int) (s : Bool) (op who key new typ : Int) (st : Bool) (w0 : World) (hv : RegsAt w0 v l) (hm : l.length ≤ 100) (hG : decide (goodR ⟨l, h, t, s, g⟩) = true) (hO : soundR ⟨op, who, key, new, typ, st⟩) (hk : ¬ knowsR ⟨l, h, t, s, g⟩ ⟨op, who, key, new, typ, st⟩) : DoRef l v h t g s op who key new typ st w0 nobody 9 := by
  have hs : (1 ≤ op ∧ op ≤ 6) ∧ 0 ≤ who ∧ 0 ≤ key ∧ 0 ≤ new ∧ ((op = 2 ∨ op = 3 ∨ op = 5) → 1 ≤ typ ∧ typ ≤ 6) := hO
  obtain ⟨h1, h2, h3, h4, h5⟩ := hs
  obtain ⟨K, hK⟩ : ∃ K, keyOf l who = K := ⟨_, rfl⟩
  have hop : op = 1 ∨ op = 6 ∨ op = 2 ∨ op = 3 ∨ op = 4 ∨ op = 5 := by omega
  unfold knowsR at hk
  dsimp only at hk
  rw [hK] at hk
  rcases hop with rfl | rfl | rfl | rfl | rfl | rfl
  · rw [if_neg (by decide), if_pos rfl] at hk
    exact doRef_unk1 l v h t g s who key new typ st w0 hv hm hG h2 h3 h4 K hK hk
  · rw [if_pos rfl] at hk
    exact absurd trivial hk
  · rw [if_neg (by decide), if_neg (by decide)] at hk
    by_cases hk0 : K = 0
    · exact doRef_unk2a l v h t g s who key new typ st w0 hv hm hG h2 h3 h4 (h5 (by decide)).1 (h5 (by decide)).2 K hK hk0
    · exact doRef_unk2b l v h t g s who key new typ st w0 hv hm hG h2 h3 h4 (h5 (by decide)).1 (h5 (by decide)).2 K hk0 hK (fun e => hk ⟨hk0, e⟩)
  · rw [if_neg (by decide), if_neg (by decide)] at hk
    by_cases hk0 : K = 0
    · exact doRef_unk3a l v h t g s who key new typ st w0 hv hm hG h2 h3 h4 (h5 (by decide)).1 (h5 (by decide)).2 K hK hk0
    · exact doRef_unk3b l v h t g s who key new typ st w0 hv hm hG h2 h3 h4 (h5 (by decide)).1 (h5 (by decide)).2 K hk0 hK (fun e => hk ⟨hk0, e⟩)
  · rw [if_neg (by decide), if_neg (by decide)] at hk
    by_cases hk0 : K = 0
    · exact doRef_unk4a l v h t g s who key new typ st w0 hv hm hG h2 h3 h4 K hK hk0
    · exact doRef_unk4b l v h t g s who key new typ st w0 hv hm hG h2 h3 h4 K hk0 hK (fun e => hk ⟨hk0, e⟩)
  · rw [if_neg (by decide), if_neg (by decide)] at hk
    by_cases hk0 : K = 0
    · exact doRef_unk5a l v h t g s who key new typ st w0 hv hm hG h2 h3 h4 (h5 (by decide)).1 (h5 (by decide)).2 K hK hk0
    · exact doRef_unk5b l v h t g s who key new typ st w0 hv hm hG h2 h3 h4 (h5 (by decide)).1 (h5 (by decide)).2 K hk0 hK (fun e => hk ⟨hk0, e⟩)
end Go.Proofs.Ytkfggilildiflac
