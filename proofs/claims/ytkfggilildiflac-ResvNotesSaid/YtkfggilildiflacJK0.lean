/-
  Laws that the claims of this seat use, of several texts in one: Rt, Rtk, Rsm, OpenResvI. No condition of their own.
-/
import Derived.Lib.MinMax
import Derived.Laws.StructEq
import Derived.Test.YtkfggilildiflacJJ0

namespace Go.Proofs.Ytkfggilildiflac
open Go.ChangeShapes Go.WideShapes Go.ChangeAt Go.RowKit
attribute [local irreducible] wpList wpListIn Oper.quietAt wpM
def i64R (n : Int) : Prop := -9223372036854775808 ≤ n ∧ n ≤ 9223372036854775807
theorem sN_8 {n : Int} (h : i64R n) : sN (beB (u64W n) 8) = n := by
  unfold sN
  rw [beN_beB]
  unfold wrap64 u64W
  obtain ⟨h1, h2⟩ := h
  simp only [Nat.reducePow]
  omega
theorem sN_1 {n : Int} (h : 0 ≤ n ∧ n ≤ 255) : sN (beB (u64W n) 1) = n := by
  unfold sN
  rw [beN_beB]
  unfold wrap64 u64W
  simp only [Nat.reducePow]
  omega
/-- What is left of a sector where so many registrations are still to come. -/
def tailR (l : List Rg) (Z : List UInt8) : List UInt8 := (l.flatMap fun y => beB (u64W y.1) 8 ++ beB (u64W y.2) 8) ++ Z
theorem tailR_cons (y : Rg) (l : List Rg) (Z : List UInt8) : tailR (y :: l) Z = beB (u64W y.1) 8 ++ (beB (u64W y.2) 8 ++ tailR l Z) := by
  unfold tailR
  rw [List.flatMap_cons]
  simp only [List.append_assoc]
theorem tailR_ne {l : List Rg} {Z : List UInt8} (h : Z ≠ []) : tailR l Z ≠ [] := by
  unfold tailR
  intro e
  exact h (List.append_eq_nil_iff.1 e).2
theorem cell_parts {l : List Rg} {h t g : Int} {s : Bool} (hG : goodR ⟨l, h, t, s, g⟩) : ∃ Z, Z ≠ [] ∧ Z.length ≤ 128 ∧ cellR ⟨l, h, t, s, g⟩ = beB (u64W g) 8 ++ (beB (u64W (if s then 1 else 0)) 1 ++ (beB (u64W t) 1 ++ (beB (u64W (l.length : Int)) 1 ++ (beB (u64W (wrap64 (h + 1))) 8 ++ tailR l Z)))) := by
  have hf : ∀ m : List Rg, bytesR (m.flatMap fun y => [((8 : Int), y.1), (8, y.2)]) = m.flatMap fun y => beB (u64W y.1) 8 ++ beB (u64W y.2) 8 := by
    intro m
    induction m with
    | nil => rfl
    | cons y m ih =>
      unfold bytesR at ih ⊢
      rw [List.flatMap_cons, List.flatMap_append, ih, List.flatMap_cons]
      simp
  have hb : bytesR (numsR ⟨l, h, t, s, g⟩) = beB (u64W g) 8 ++ (beB (u64W (if s then 1 else 0)) 1 ++ (beB (u64W t) 1 ++ (beB (u64W (l.length : Int)) 1 ++ (beB (u64W (wrap64 (h + 1))) 8 ++ (l.flatMap fun y => beB (u64W y.1) 8 ++ beB (u64W y.2) 8))))) := by
    unfold numsR
    dsimp only
    rw [← hf l]
    unfold bytesR
    rw [List.flatMap_append]
    simp
  have h4 : l.length ≤ 4 := hG.1.1
  have hl : (bytesR (numsR ⟨l, h, t, s, g⟩)).length ≤ 8 * (5 + 2 * l.length) := by
    have := bytesR_len (numsR_sized hG)
    rwa [numsR_len] at this
  refine ⟨zs (128 - (bytesR (numsR ⟨l, h, t, s, g⟩)).length), ?_, by rw [zs_len]; omega, ?_⟩
  · intro e
    have := congrArg List.length e
    rw [zs_len, List.length_nil] at this
    omega
  · unfold cellR tailR
    rw [hb]
    simp only [List.append_assoc]
end Go.Proofs.Ytkfggilildiflac

namespace Go.Proofs.Ytkfggilildiflac
open Go.ChangeShapes Go.WideShapes Go.ChangeAt Go.RowKit
attribute [local irreducible] wpList wpListIn Oper.quietAt wpM
theorem cellR_len {r : Rv} (hG : goodR r) : (cellR r).length = 128 := by
  have h4 : r.regs.length ≤ 4 := hG.1.1
  have hl := bytesR_len (numsR_sized hG)
  rw [numsR_len] at hl
  unfold cellR
  rw [List.length_append, zs_len]
  omega
theorem r_minI {P : Program} {o : Oper} {a : Act} {w : World} {ts : Array TypeId} {x y : Operand} {k k' : IntKind} {m n q : Int} (hop : o.op = .call { callee := .builtin .min, args := #[x, y], argTypes := ts }) (hx : evO a x = some (.int k m)) (hy : evO a y = some (.int k' n)) (hq : min m n = q) : (execOp a.eval o).run P w = .ok (.value (.int k q)) w := by
  unfold execOp; rw [hop]; subst hq
  have e1 : #[x, y].map a.eval = #[.int k m, .int k' n] := by simp [Ct hx, Ct hy]
  simp only [resolve, Sem.run_bind, Sem.run_pure, Result.andThen_ok, invoke, builtin, e1, Go.Lib.run_min_ints]
theorem r_eqF {P : Program} {o : Oper} {a : Act} {w : World} {t t' : TypeId} {x y : Operand} {m n : Int} {q : Bool} (hop : o.op = .binOp .eql t x y t') (hx : evO a x = some (.int .i64 m)) (hy : evO a y = some (.int .i64 n)) (hq : decide (m = n) = q) : (execOp a.eval o).run P w = .ok (.value (.bool q)) w := by
  unfold execOp; rw [hop]; subst hq
  simp [Ct hx, Ct hy, eqGuard, binOp, Op.intCmp]
  rfl
theorem tailR_len (l : List Rg) (Z : List UInt8) : (tailR l Z).length = 16 * l.length + Z.length := by
  induction l with
  | nil => simp [tailR]
  | cons y l ih => rw [tailR_cons, List.length_append, List.length_append, beB_len, beB_len, ih, List.length_cons]; omega
theorem r_neA {P : Program} {o : Oper} {a : Act} {w : World} {t t' n : Nat} {x y : Operand} {l m : List UInt8} {q : Bool} (hop : o.op = .binOp .neq t x y t') (hx : evO a x = some (.agg (bvs l))) (hy : evO a y = some (.agg (bvs m))) (hb : isBytes P t n = true) (hg : P.eqGuardType P.depth t = false) (hl : l.length = n) (hm : m.length = n) (hq : (!(l == m)) = q) : (execOp a.eval o).run P w = .ok (.value (.bool q)) w := by
  unfold execOp; rw [hop]; subst hq
  simp only [Ct hx, Ct hy, Sem.run_bind, run_eqGuard_agg w .neq t x y _ _ hg, Result.andThen_ok, run_neq_struct, run_equalIn_bytes hb l m (by rw [Ce, hl]) (by rw [Ce, hm]) w]
  rfl
theorem r_subW {P : Program} {o : Oper} {a : Act} {w : World} {t t' : TypeId} {x y : Operand} {m n q : Int} (hop : o.op = .binOp .sub t x y t') (hx : evO a x = some (.int .i64 m)) (hy : evO a y = some (.int .i64 n)) (hq : wrap64 (m - n) = q) : (execOp a.eval o).run P w = .ok (.value (.int .i64 q)) w := by
  unfold execOp; rw [hop]; subst hq
  simp [Ct hx, Ct hy, eqGuard, binOp, Op.intArith, wrap_is]
set_option maxRecDepth 100000 in
set_option maxHeartbeats 8000000 in
theorem takeR_good (l : List Rg) (h t g : Int) (s : Bool) (hG : goodR ⟨l, h, t, s, g⟩) (ih : i64R h) (ig : i64R g) (hi : ∀ y ∈ l, i64R y.1 ∧ i64R y.2) (w0 : World) :
    Calls Try.prog 27 #[.agg (bvs (cellR ⟨l, h, t, s, g⟩))] w0 fun e w' => ∃ sv, e = .returned (.tuple #[.agg #[sv, .int .i64 h, .int .i64 t, .bool s, .int .i64 g], .nilIface]) ∧ OwnRegs w0.heap.size w' sv l ∧ Below w0.heap.size w0 w' := by
  have h44 : l.length ≤ 4 := hG.1.1
  obtain ⟨Z, hZ0, hZm, hcell⟩ := cell_parts hG
  have lC : (cellR ⟨l, h, t, s, g⟩).length = 128 := cellR_len hG
  obtain ⟨C, hC⟩ : ∃ C, cellR ⟨l, h, t, s, g⟩ = C := ⟨_, rfl⟩
  rw [hC] at lC hcell ⊢
  have s1 : csz (bvs C) = 128 := by rw [Ce, lC]
  have ht0 : 0 ≤ t ∧ t ≤ 255 := by
    have := good_typ hG
    dsimp only at this
    split at this <;> omega
  have hfl : decide ((if s then (1 : Int) else 0) = 1) = s := by cases s <;> rfl
  obtain ⟨Y5, h5⟩ : ∃ Y, tailR l Z = Y := ⟨_, rfl⟩
  have n5 : Y5 ≠ [] := h5 ▸ tailR_ne hZ0
  rw [h5] at hcell
  obtain ⟨Y4, h4⟩ : ∃ Y, beB (u64W (wrap64 (h + 1))) 8 ++ Y5 = Y := ⟨_, rfl⟩
  have n4 : Y4 ≠ [] := fun e => n5 (List.append_eq_nil_iff.1 (h4.trans e)).2
  rw [h4] at hcell
  obtain ⟨Y3, h3⟩ : ∃ Y, beB (u64W (l.length : Int)) 1 ++ Y4 = Y := ⟨_, rfl⟩
  have n3 : Y3 ≠ [] := fun e => n4 (List.append_eq_nil_iff.1 (h3.trans e)).2
  rw [h3] at hcell
  obtain ⟨Y2, h2⟩ : ∃ Y, beB (u64W t) 1 ++ Y3 = Y := ⟨_, rfl⟩
  have n2 : Y2 ≠ [] := fun e => n3 (List.append_eq_nil_iff.1 (h2.trans e)).2
  rw [h2] at hcell
  obtain ⟨Y1, h1⟩ : ∃ Y, beB (u64W (if s then 1 else 0)) 1 ++ Y2 = Y := ⟨_, rfl⟩
  have n1 : Y1 ≠ [] := fun e => n2 (List.append_eq_nil_iff.1 (h1.trans e)).2
  rw [h1] at hcell
  have m1 : Y1.length ≤ 1000 := by have := congrArg List.length hcell; rw [List.length_append] at this; omega
  have m2 : Y2.length ≤ 1000 := by have := congrArg List.length h1; rw [List.length_append] at this; omega
  have m3 : Y3.length ≤ 1000 := by have := congrArg List.length h2; rw [List.length_append] at this; omega
  have m4 : Y4.length ≤ 1000 := by have := congrArg List.length h3; rw [List.length_append] at this; omega
  have m5 : Y5.length ≤ 1000 := by have := congrArg List.length h4; rw [List.length_append] at this; omega
  have hsub : wrap64 (wrap64 (h + 1) - 1) = h := by
    obtain ⟨q1, q2⟩ := ih
    unfold wrap64
    omega
  have hmin : min (l.length : Int) 4 = (l.length : Int) := by omega
  have hS := St.start w0
  go_enter Try.func27, Try.ntmps27
  repeat' (first | ((with_reducible refine Ad ?_); first | ((first | refine Bn Aa ?_ | refine Bm Aa ?_ | refine Az Aa ?_ | refine Bf Aa Ab hS ?_ | refine Bi Aa Ab hS ?_ | refine Ao Aa ?_ | refine Bw Aa ?_ | refine Br Aa ?_ | refine Be Aa ?_ | refine Bg Aa ?_ | refine Bv Aa (fun hc => ?_) (fun hc => ?_) | refine Ay Aa ?_ | refine Am Aa ?_ | refine Ah Aa ?_ | refine g_neqSlNil Aa ?_ | refine Ae Aa ?_ | refine Bo Aa ?_ | refine Bc Aa ?_ | refine As Aa ?_ | refine Ak Aa ?_ | refine Bj Aa ?_ | refine Bk Aa ?_) <;> refine Ac ?_) | ((first | refine Bh Aa Ab hS ?_ | refine Bt Aa Ab hS ?_ | refine Ba Aa Ab hS ?_ | refine Bd Aa Ab hS ?_); clear hS; intro b w hS; refine Ac ?_) | ((first | refine Av Aa Ab hS ?_ | refine Au Aa Ab hS ?_ | refine Bb Aa Ab hS ?_); clear hS; intro w hS; refine Ac ?_)) | ((fail_if_success (with_reducible refine Ad ?_)); first | go_step | go_step3 | rw [Exit.noGoto_normal] | rw [Exit.noGoto_ret] | rw [Exit.noGoto_exit]))
  refine s_call Aa (by rfl) (by rfl) (by rfl) (by rfl) (by rfl) (by infer_instance) (next_8 (beB (u64W g) 8) Y1 (beB_len _ _) n1 m1 _ _ _ _ _ hS (bytesAt_mid (pre := []) (off := 0) (n := 128) (c := 128) (post := []) (hS.blk 2 rfl) (by rw [List.append_nil, List.nil_append]; rfl) rfl lC (Nat.le_refl _) |> fun q => by rw [← hcell]; exact q)) ?_
  rintro e w1 ⟨sv1, Lr1, rfl, hB1, hS1⟩
  refine ⟨_, rfl, ?_⟩
  refine Ac ?_
  replace hS := hS1
  rcases hB1 with ⟨_, e0, _⟩ | ⟨g1, c1, sp1, rfl, a1, a2, a3, rfl⟩
  · exact absurd e0 n1
  simp only [List.cons_append, List.nil_append] at hS
  clear hS1
  rw [sN_8 ig]
  repeat' (first | ((with_reducible refine Ad ?_); first | ((first | refine Bn Aa ?_ | refine Bm Aa ?_ | refine Az Aa ?_ | refine Bf Aa Ab hS ?_ | refine Bi Aa Ab hS ?_ | refine Ao Aa ?_ | refine Bw Aa ?_ | refine Br Aa ?_ | refine Be Aa ?_ | refine Bg Aa ?_ | refine Bv Aa (fun hc => ?_) (fun hc => ?_) | refine Ay Aa ?_ | refine Am Aa ?_ | refine Ah Aa ?_ | refine g_neqSlNil Aa ?_ | refine Ae Aa ?_ | refine Bo Aa ?_ | refine Bc Aa ?_ | refine As Aa ?_ | refine Ak Aa ?_ | refine Bj Aa ?_ | refine Bk Aa ?_) <;> refine Ac ?_) | ((first | refine Bh Aa Ab hS ?_ | refine Bt Aa Ab hS ?_ | refine Ba Aa Ab hS ?_ | refine Bd Aa Ab hS ?_); clear hS; intro b w hS; refine Ac ?_) | ((first | refine Av Aa Ab hS ?_ | refine Au Aa Ab hS ?_ | refine Bb Aa Ab hS ?_); clear hS; intro w hS; refine Ac ?_)) | ((fail_if_success (with_reducible refine Ad ?_)); first | go_step | go_step3 | rw [Exit.noGoto_normal] | rw [Exit.noGoto_ret] | rw [Exit.noGoto_exit]))
  refine s_call Aa (by rfl) (by rfl) (by rfl) (by rfl) (by rfl) (by infer_instance) (next_1 (beB (u64W (if s then 1 else 0)) 1) Y2 (beB_len _ _) n2 m2 _ _ _ _ _ (hS.perm (.swap _ _ _)) (by rw [h1]; exact BL.inn (l := Y1) (.inr ⟨g1, c1, sp1, rfl, a1, a2, a3, rfl⟩) hS (by intro x hx; simp at hx; simp [hx]))) ?_
  clear a1 a2 a3
  rintro e w1 ⟨sv1, Lr1, rfl, hB1, hS1⟩
  refine ⟨_, rfl, ?_⟩
  refine Ac ?_
  replace hS := hS1
  rcases hB1 with ⟨_, e0, _⟩ | ⟨g2, c2, sp2, rfl, a1, a2, a3, rfl⟩
  · exact absurd e0 n2
  simp only [List.cons_append, List.nil_append] at hS
  clear hS1
  replace hS := hS.erase 3
  simp only [List.eraseIdx_cons_succ, List.eraseIdx_cons_zero] at hS
  rw [sN_1 (by split <;> omega)]
  repeat' (first | ((with_reducible refine Ad ?_); first | (refine Stp.go Aa (by rfl) (by rfl) (r_eqF (by rfl) (by rfl) (by rfl) hfl) ?_; refine Ac ?_) | ((first | refine Bn Aa ?_ | refine Bm Aa ?_ | refine Az Aa ?_ | refine Bf Aa Ab hS ?_ | refine Bi Aa Ab hS ?_ | refine Ao Aa ?_ | refine Bw Aa ?_ | refine Br Aa ?_ | refine Be Aa ?_ | refine Bg Aa ?_ | refine Bv Aa (fun hc => ?_) (fun hc => ?_) | refine Ay Aa ?_ | refine Am Aa ?_ | refine Ah Aa ?_ | refine g_neqSlNil Aa ?_ | refine Ae Aa ?_ | refine Bo Aa ?_ | refine Bc Aa ?_ | refine As Aa ?_ | refine Ak Aa ?_ | refine Bj Aa ?_ | refine Bk Aa ?_) <;> refine Ac ?_) | ((first | refine Bh Aa Ab hS ?_ | refine Bt Aa Ab hS ?_ | refine Ba Aa Ab hS ?_ | refine Bd Aa Ab hS ?_); clear hS; intro b w hS; refine Ac ?_) | ((first | refine Av Aa Ab hS ?_ | refine Au Aa Ab hS ?_ | refine Bb Aa Ab hS ?_); clear hS; intro w hS; refine Ac ?_)) | ((fail_if_success (with_reducible refine Ad ?_)); first | go_step | go_step3 | rw [Exit.noGoto_normal] | rw [Exit.noGoto_ret] | rw [Exit.noGoto_exit]))
  refine s_call Aa (by rfl) (by rfl) (by rfl) (by rfl) (by rfl) (by infer_instance) (next_1 (beB (u64W (t)) 1) Y3 (beB_len _ _) n3 m3 _ _ _ _ _ hS (by rw [h2]; exact BL.inn (l := Y2) (.inr ⟨g2, c2, sp2, rfl, a1, a2, a3, rfl⟩) hS (by intro x hx; simp at hx; simp [hx]))) ?_
  clear a1 a2 a3
  rintro e w1 ⟨sv1, Lr1, rfl, hB1, hS1⟩
  refine ⟨_, rfl, ?_⟩
  refine Ac ?_
  replace hS := hS1
  rcases hB1 with ⟨_, e0, _⟩ | ⟨g3, c3, sp3, rfl, a1, a2, a3, rfl⟩
  · exact absurd e0 n3
  simp only [List.cons_append, List.nil_append] at hS
  clear hS1
  replace hS := hS.erase 2
  simp only [List.eraseIdx_cons_succ, List.eraseIdx_cons_zero] at hS
  rw [sN_1 ht0]
  repeat' (first | ((with_reducible refine Ad ?_); first | ((first | refine Bn Aa ?_ | refine Bm Aa ?_ | refine Az Aa ?_ | refine Bf Aa Ab hS ?_ | refine Bi Aa Ab hS ?_ | refine Ao Aa ?_ | refine Bw Aa ?_ | refine Br Aa ?_ | refine Be Aa ?_ | refine Bg Aa ?_ | refine Bv Aa (fun hc => ?_) (fun hc => ?_) | refine Ay Aa ?_ | refine Am Aa ?_ | refine Ah Aa ?_ | refine g_neqSlNil Aa ?_ | refine Ae Aa ?_ | refine Bo Aa ?_ | refine Bc Aa ?_ | refine As Aa ?_ | refine Ak Aa ?_ | refine Bj Aa ?_ | refine Bk Aa ?_) <;> refine Ac ?_) | ((first | refine Bh Aa Ab hS ?_ | refine Bt Aa Ab hS ?_ | refine Ba Aa Ab hS ?_ | refine Bd Aa Ab hS ?_); clear hS; intro b w hS; refine Ac ?_) | ((first | refine Av Aa Ab hS ?_ | refine Au Aa Ab hS ?_ | refine Bb Aa Ab hS ?_); clear hS; intro w hS; refine Ac ?_)) | ((fail_if_success (with_reducible refine Ad ?_)); first | go_step | go_step3 | rw [Exit.noGoto_normal] | rw [Exit.noGoto_ret] | rw [Exit.noGoto_exit]))
  refine s_call Aa (by rfl) (by rfl) (by rfl) (by rfl) (by rfl) (by infer_instance) (next_1 (beB (u64W ((l.length : Int))) 1) Y4 (beB_len _ _) n4 m4 _ _ _ _ _ hS (by rw [h3]; exact BL.inn (l := Y3) (.inr ⟨g3, c3, sp3, rfl, a1, a2, a3, rfl⟩) hS (by intro x hx; simp at hx; simp [hx]))) ?_
  clear a1 a2 a3
  rintro e w1 ⟨sv1, Lr1, rfl, hB1, hS1⟩
  refine ⟨_, rfl, ?_⟩
  refine Ac ?_
  replace hS := hS1
  rcases hB1 with ⟨_, e0, _⟩ | ⟨g4, c4, sp4, rfl, a1, a2, a3, rfl⟩
  · exact absurd e0 n4
  simp only [List.cons_append, List.nil_append] at hS
  clear hS1
  replace hS := hS.erase 2
  simp only [List.eraseIdx_cons_succ, List.eraseIdx_cons_zero] at hS
  rw [sN_1 (by omega)]
  repeat' (first | ((with_reducible refine Ad ?_); first | ((first | refine Bn Aa ?_ | refine Bm Aa ?_ | refine Az Aa ?_ | refine Bf Aa Ab hS ?_ | refine Bi Aa Ab hS ?_ | refine Ao Aa ?_ | refine Bw Aa ?_ | refine Br Aa ?_ | refine Be Aa ?_ | refine Bg Aa ?_ | refine Bv Aa (fun hc => ?_) (fun hc => ?_) | refine Ay Aa ?_ | refine Am Aa ?_ | refine Ah Aa ?_ | refine g_neqSlNil Aa ?_ | refine Ae Aa ?_ | refine Bo Aa ?_ | refine Bc Aa ?_ | refine As Aa ?_ | refine Ak Aa ?_ | refine Bj Aa ?_ | refine Bk Aa ?_) <;> refine Ac ?_) | ((first | refine Bh Aa Ab hS ?_ | refine Bt Aa Ab hS ?_ | refine Ba Aa Ab hS ?_ | refine Bd Aa Ab hS ?_); clear hS; intro b w hS; refine Ac ?_) | ((first | refine Av Aa Ab hS ?_ | refine Au Aa Ab hS ?_ | refine Bb Aa Ab hS ?_); clear hS; intro w hS; refine Ac ?_)) | ((fail_if_success (with_reducible refine Ad ?_)); first | go_step | go_step3 | rw [Exit.noGoto_normal] | rw [Exit.noGoto_ret] | rw [Exit.noGoto_exit]))
  refine s_call Aa (by rfl) (by rfl) (by rfl) (by rfl) (by rfl) (by infer_instance) (next_8 (beB (u64W (wrap64 (h + 1))) 8) Y5 (beB_len _ _) n5 m5 _ _ _ _ _ hS (by rw [h4]; exact BL.inn (l := Y4) (.inr ⟨g4, c4, sp4, rfl, a1, a2, a3, rfl⟩) hS (by intro x hx; simp at hx; simp [hx]))) ?_
  clear a1 a2 a3
  rintro e w1 ⟨sv1, Lr1, rfl, hB1, hS1⟩
  refine ⟨_, rfl, ?_⟩
  refine Ac ?_
  replace hS := hS1
  rcases hB1 with ⟨_, e0, _⟩ | ⟨g5, c5, sp5, rfl, a1, a2, a3, rfl⟩
  · exact absurd e0 n5
  simp only [List.cons_append, List.nil_append] at hS
  clear hS1
  replace hS := hS.erase 2
  simp only [List.eraseIdx_cons_succ, List.eraseIdx_cons_zero] at hS
  rw [sN_8 (by unfold i64R wrap64; omega)]
  repeat' (first | ((with_reducible refine Ad ?_); first | ((first | refine Bn Aa ?_ | refine Bm Aa ?_ | refine Az Aa ?_ | refine Bf Aa Ab hS ?_ | refine Bi Aa Ab hS ?_ | refine Ao Aa ?_ | refine Bw Aa ?_ | refine Br Aa ?_ | refine Be Aa ?_ | refine Bg Aa ?_ | refine Bv Aa (fun hc => ?_) (fun hc => ?_) | refine Ay Aa ?_ | refine Am Aa ?_ | refine Ah Aa ?_ | refine g_neqSlNil Aa ?_ | refine Ae Aa ?_ | refine Bo Aa ?_ | refine Bc Aa ?_ | refine As Aa ?_ | refine Ak Aa ?_ | refine Bj Aa ?_ | refine Bk Aa ?_) <;> refine Ac ?_) | ((first | refine Bh Aa Ab hS ?_ | refine Bt Aa Ab hS ?_ | refine Ba Aa Ab hS ?_ | refine Bd Aa Ab hS ?_); clear hS; intro b w hS; refine Ac ?_) | ((first | refine Av Aa Ab hS ?_ | refine Au Aa Ab hS ?_ | refine Bb Aa Ab hS ?_); clear hS; intro w hS; refine Ac ?_) | (refine Stp.go Aa (by rfl) (by rfl) (r_subW (by rfl) (by rfl) (by rfl) hsub) ?_; refine Ac ?_) | (refine Stp.go Aa (by rfl) (by rfl) (r_minI (by rfl) (by rfl) (by rfl) hmin) ?_; refine Ac ?_)) | ((fail_if_success (with_reducible refine Ad ?_)); first | go_step | go_step3 | rw [Exit.noGoto_normal] | rw [Exit.noGoto_ret] | rw [Exit.noGoto_exit]))
  clear n1 n2 n3 n4 m1 m2 m3 m4 h1 h2 h3 h4 hmin hsub hfl hcell Y1 Y2 Y3 Y4
  rename_i bc x1 bt x2 rb x3 x4 x5 x6 x7 x8 y1 y2 y3 y4 y5
  obtain ⟨br, hbr⟩ : ∃ x, x = b := ⟨_, rfl⟩
  rw [← hbr] at hS ⊢
  clear hbr
  go_loopw [30] (fun u30 wr => ∃ (k : Nat) (rv sv : Value) (Lr Lb : List Blk), k ≤ l.length ∧ u30 = .int .i64 (k : Int) ∧ RgL (l.take k) sv Lr ∧ BL (tailR (l.drop k) Z) rv Lb ∧ St w0 wr ((rb, #[rv], 84) :: (br, #[sv, .int .i64 h, .int .i64 t, .bool s, .int .i64 g], 24) :: (bt, #[.slice none 0 0, .int .i64 0, .int .i64 0, .bool false, .int .i64 0], 24) :: (bc, bvs C, 55) :: (Lb ++ Lr))) (fun u30 _ => l.length - (intOf u30).toNat)
  case atStart => exact ⟨0, _, _, [], [_], by omega, rfl, .inl ⟨rfl, rfl, rfl⟩, .inr ⟨g5, c5, sp5, by rw [List.drop_zero, h5], by rw [List.drop_zero, h5]; exact a1, a2, by rw [List.drop_zero, h5]; exact a3, by rw [List.drop_zero, h5]⟩, hS.perm (.cons _ (.trans (.swap _ _ _) (.cons _ (.trans (.swap _ _ _) (.cons _ (.swap _ _ _))))))⟩
  case round =>
    obtain ⟨k, rv, sv, Lr, Lb, hk, rfl, hR, hB, hS⟩ := hrel
    by_cases hlt : k < l.length
    · have hd : l.drop k = l[k] :: l.drop (k + 1) := List.drop_eq_getElem_cons hlt
      have hyi := hi _ (List.getElem_mem hlt)
      have htk : l.take (k + 1) = l.take k ++ [l[k]] := List.take_succ_eq_append_getElem hlt
      obtain ⟨⟨y1, y2⟩, hy⟩ : ∃ y, l[k] = y := ⟨_, rfl⟩
      rw [hy] at hd hyi htk
      rw [hd, tailR_cons] at hB
      dsimp only at hB hyi
      obtain ⟨Y, hY⟩ : ∃ Y, tailR (l.drop (k + 1)) Z = Y := ⟨_, rfl⟩
      have nY : Y ≠ [] := hY ▸ tailR_ne hZ0
      rw [hY] at hB
      obtain ⟨X, hX⟩ : ∃ X, beB (u64W y2) 8 ++ Y = X := ⟨_, rfl⟩
      have nX : X ≠ [] := fun e => nY (List.append_eq_nil_iff.1 (hX.trans e)).2
      have mY2 : Y.length ≤ 200 := by rw [← hY, tailR_len, List.length_drop]; omega
      have mY : Y.length ≤ 1000 := by omega
      have mX : X.length ≤ 1000 := by rw [← hX, List.length_append, beB_len]; omega
      rw [hX] at hB
      obtain ⟨p1, c1, rfl⟩ := hR.slice
      have hll : (l.take k).length ≤ 1000 := by rw [List.length_take]; omega
      rcases hB with ⟨_, e0, _⟩ | ⟨g6, c6, sp6, rfl, a1, a2, a3, rfl⟩
      · exact absurd (congrArg List.length e0) (by rw [List.length_append, beB_len]; simp)
      simp only [List.cons_append, List.nil_append] at hS
      repeat' (first | ((with_reducible refine Ad ?_); first | ((first | refine Bn Aa ?_ | refine Bm Aa ?_ | refine Az Aa ?_ | refine Bf Aa Ab hS ?_ | refine Bi Aa Ab hS ?_ | refine Ao Aa ?_ | refine Bw Aa ?_ | refine Br Aa ?_ | refine Be Aa ?_ | refine Bg Aa ?_ | refine Bv Aa (fun hc => ?_) (fun hc => ?_) | refine Ay Aa ?_ | refine Am Aa ?_ | refine Ah Aa ?_ | refine g_neqSlNil Aa ?_ | refine Ae Aa ?_ | refine Bo Aa ?_ | refine Bc Aa ?_ | refine As Aa ?_ | refine Ak Aa ?_ | refine Bj Aa ?_ | refine Bk Aa ?_) <;> refine Ac ?_) | ((first | refine Bh Aa Ab hS ?_ | refine Bt Aa Ab hS ?_ | refine Ba Aa Ab hS ?_ | refine Bd Aa Ab hS ?_); clear hS; intro b w hS; refine Ac ?_) | ((first | refine Av Aa Ab hS ?_ | refine Au Aa Ab hS ?_ | refine Bb Aa Ab hS ?_); clear hS; intro w hS; refine Ac ?_)) | ((fail_if_success (with_reducible refine Ad ?_)); first | go_step | go_step3 | rw [Exit.noGoto_normal] | rw [Exit.noGoto_ret] | rw [Exit.noGoto_exit]))
      refine any_start [0, 1, 2, 3, 4, 5, 6, 7, 8, 9, 10] (by kernel_rfl) (by kernel_rfl) ?_
      intro w hcq
      replace hS := hS.cls hcq
      clear hcq
      (refine any_pull 0 (by kernel_rfl) (by rfl) (by rfl) (by exact fun _ _ _ _ h => h) ?_; apply Exists.intro; refine ⟨fun C w' => ?_, ?_⟩; (focus (first | exact Ch)); refine wa_put ?_)
      (refine any_pull 2 (by kernel_rfl) (by rfl) (by rfl) (by exact fun _ _ _ _ h => h) ?_; apply Exists.intro; refine ⟨fun C w' => ?_, ?_⟩; (focus (first | exact Dv)); refine wa_put ?_)
      (refine any_pull 4 (by kernel_rfl) (by rfl) (by rfl) (by exact fun _ _ _ _ h => h) ?_; apply Exists.intro; refine ⟨fun C w' => ?_, ?_⟩; (focus (first | exact Dv)); refine wa_put ?_)
      refine any_turn2 1 3 (by kernel_rfl) (by rfl) (by rfl) ?_ ?_
      · repeat' (first | ((with_reducible refine Ad ?_); first | ((first | refine Bn Aa ?_ | refine Bf Aa Ab hS ?_) <;> refine Ac ?_)) | ((fail_if_success (with_reducible refine Ad ?_)); first | go_step | go_step3 | rw [Exit.noGoto_normal] | rw [Exit.noGoto_ret] | rw [Exit.noGoto_exit]))
        refine any_turn 3 (by kernel_rfl) (by rfl) ?_
        refine s_call Aa (by rfl) (by rfl) (by rfl) (by rfl) (by rfl) (by infer_instance) (next_8 (beB (u64W y1) 8) X (beB_len _ _) nX mX _ _ _ _ _ hS (by  exact BL.inn (.inr ⟨g6, c6, sp6, rfl, a1, a2, a3, rfl⟩) hS (by intro x hx; simp at hx; simp [hx]))) ?_
        clear a1 a2 a3
        rintro e w1 ⟨sv1, Lr1, rfl, hB1, hS1⟩
        refine ⟨_, rfl, ?_⟩
        refine Ac ?_
        replace hS := hS1
        rcases hB1 with ⟨_, e0, _⟩ | ⟨g7, c7, sp7, rfl, a1, a2, a3, rfl⟩
        · exact absurd e0 nX
        simp only [List.cons_append, List.nil_append] at hS
        clear hS1
        replace hS := hS.erase 5
        simp only [List.eraseIdx_cons_succ, List.eraseIdx_cons_zero] at hS
        rw [sN_8 hyi.1]
        repeat' (first | ((with_reducible refine Ad ?_); first | ((first | refine Bn Aa ?_) <;> refine Ac ?_)) | ((fail_if_success (with_reducible refine Ad ?_)); first | go_step | go_step3 | rw [Exit.noGoto_normal] | rw [Exit.noGoto_ret] | rw [Exit.noGoto_exit]))
        refine any_turn 5 (by kernel_rfl) (by rfl) ?_
        refine s_call Aa (by rfl) (by rfl) (by rfl) (by rfl) (by rfl) (by infer_instance) (next_8 (beB (u64W y2) 8) Y (beB_len _ _) nY mY _ _ _ _ _ hS (by rw [hX]; exact BL.inn (.inr ⟨g7, c7, sp7, rfl, a1, a2, a3, rfl⟩) hS (by intro x hx; simp at hx; simp [hx]))) ?_
        clear a1 a2 a3
        rintro e w1 ⟨sv1, Lr1, rfl, hB1, hS1⟩
        refine ⟨_, rfl, ?_⟩
        refine Ac ?_
        replace hS := hS1
        rcases hB1 with ⟨_, e0, _⟩ | ⟨g8, c8, sp8, rfl, a1, a2, a3, rfl⟩
        · exact absurd e0 nY
        simp only [List.cons_append, List.nil_append] at hS
        clear hS1
        replace hS := hS.erase 2
        simp only [List.eraseIdx_cons_succ, List.eraseIdx_cons_zero] at hS
        rw [sN_8 hyi.2]
        repeat' (first | ((with_reducible refine Ad ?_); first | ((first | refine Bn Aa ?_) <;> refine Ac ?_)) | ((fail_if_success (with_reducible refine Ad ?_)); first | go_step | go_step3 | rw [Exit.noGoto_normal] | rw [Exit.noGoto_ret] | rw [Exit.noGoto_exit]))
        refine any_turn 6 (by kernel_rfl) (by rfl) ?_
        repeat' (first | ((with_reducible refine Ad ?_); first | ((first | refine Bn Aa ?_ | refine Bj Aa ?_ | refine Bk Aa ?_) <;> refine Ac ?_) | ((first | refine Ba Aa Ab hS ?_ | refine Bd Aa Ab hS ?_); clear hS; intro b w hS; refine Ac ?_)) | ((fail_if_success (with_reducible refine Ad ?_)); first | go_step | go_step3 | rw [Exit.noGoto_normal] | rw [Exit.noGoto_ret] | rw [Exit.noGoto_exit]))
        refine any_turn 7 (by kernel_rfl) (by rfl) ?_
        repeat' (first | ((with_reducible refine Ad ?_); first | ((first | refine Bn Aa ?_ | refine Bk Aa ?_) <;> refine Ac ?_) | ((first | refine Ba Aa Ab hS ?_ | refine Bd Aa Ab hS ?_); clear hS; intro b w hS; refine Ac ?_)) | ((fail_if_success (with_reducible refine Ad ?_)); first | go_step | go_step3 | rw [Exit.noGoto_normal] | rw [Exit.noGoto_ret] | rw [Exit.noGoto_exit]))
        refine any_turn 8 (by kernel_rfl) (by rfl) ?_
        refine s_app (L := [_, _, _, _, _]) (hS.perm (.cons _ (List.perm_append_comm (l₁ := [_, _, _, _, _])))) hR hll (by rfl) (by rfl) (by rfl) (by rfl) ?_
        intro sv' Lr' w' hR' hS'
        rw [← htk] at hR'
        obtain ⟨p9, c9, rfl⟩ := hR'.slice
        refine Ac ?_
        replace hS := St.perm hS' (List.perm_append_comm (l₂ := [_, _, _, _, _]))
        simp only [List.cons_append, List.nil_append] at hS
        clear hS'
        repeat' (first | ((with_reducible refine Ad ?_); first | ((first | refine Bn Aa ?_) <;> refine Ac ?_)) | ((fail_if_success (with_reducible refine Ad ?_)); first | go_step | go_step3 | rw [Exit.noGoto_normal] | rw [Exit.noGoto_ret] | rw [Exit.noGoto_exit]))
        (refine any_pull 9 (by kernel_rfl) (by rfl) (by rfl) (by exact fun _ _ _ _ h => h) ?_; apply Exists.intro; refine ⟨fun C w' => ?_, ?_⟩; (focus (first | exact Ch)); refine wa_put ?_)
        refine any_turn 10 (by kernel_rfl) (by rfl) ?_
        repeat' (first | ((with_reducible refine Ad ?_); first | ((first | refine Bn Aa ?_) <;> refine Ac ?_) | ((first | refine Av Aa Ab hS ?_); clear hS; intro w hS; refine Ac ?_)) | ((fail_if_success (with_reducible refine Ad ?_)); first | go_step | go_step3 | rw [Exit.noGoto_normal] | rw [Exit.noGoto_ret] | rw [Exit.noGoto_exit]))
        refine any_done (by kernel_rfl) ?_
        repeat' (first | ((with_reducible refine Ad ?_); first | ((first | refine Bn Aa ?_ | refine Bm Aa ?_ | refine Az Aa ?_ | refine Bf Aa Ab hS ?_ | refine Bi Aa Ab hS ?_ | refine Ao Aa ?_ | refine Bw Aa ?_ | refine Br Aa ?_ | refine Be Aa ?_ | refine Bg Aa ?_ | refine Bv Aa (fun hc => ?_) (fun hc => ?_) | refine Ay Aa ?_ | refine Am Aa ?_ | refine Ah Aa ?_ | refine g_neqSlNil Aa ?_ | refine Ae Aa ?_ | refine Bo Aa ?_ | refine Bc Aa ?_ | refine As Aa ?_ | refine Ak Aa ?_ | refine Bj Aa ?_ | refine Bk Aa ?_) <;> refine Ac ?_) | ((first | refine Bh Aa Ab hS ?_ | refine Bt Aa Ab hS ?_ | refine Ba Aa Ab hS ?_ | refine Bd Aa Ab hS ?_); clear hS; intro b w hS; refine Ac ?_) | ((first | refine Av Aa Ab hS ?_ | refine Au Aa Ab hS ?_ | refine Bb Aa Ab hS ?_); clear hS; intro w hS; refine Ac ?_)) | ((fail_if_success (with_reducible refine Ad ?_)); first | go_step | go_step3 | rw [Exit.noGoto_normal] | rw [Exit.noGoto_ret] | rw [Exit.noGoto_exit]))
        go_roundw
        case rel => exact ⟨k + 1, _, _, Lr', [_], by omega, by push_cast; rfl, hR', .inr ⟨g8, c8, sp8, by rw [hY], by rw [hY]; exact a1, a2, by rw [hY]; exact a3, by rw [hY]⟩, hS.perm (.cons _ (.trans (.swap _ _ _) (.cons _ (.trans (.swap _ _ _) (.cons _ (.swap _ _ _))))))⟩
        case measure => first | (simp [intOf]; done) | (simp [intOf]; omega)
      · refine s_call Aa (by rfl) (by rfl) (by rfl) (by rfl) (by rfl) (by infer_instance) (next_8 (beB (u64W y1) 8) X (beB_len _ _) nX mX _ _ _ _ _ hS (by  exact BL.inn (.inr ⟨g6, c6, sp6, rfl, a1, a2, a3, rfl⟩) hS (by intro x hx; simp at hx; simp [hx]))) ?_
        clear a1 a2 a3
        rintro e w1 ⟨sv1, Lr1, rfl, hB1, hS1⟩
        refine ⟨_, rfl, ?_⟩
        refine Ac ?_
        replace hS := hS1
        rcases hB1 with ⟨_, e0, _⟩ | ⟨g7, c7, sp7, rfl, a1, a2, a3, rfl⟩
        · exact absurd e0 nX
        simp only [List.cons_append, List.nil_append] at hS
        clear hS1
        replace hS := hS.erase 5
        simp only [List.eraseIdx_cons_succ, List.eraseIdx_cons_zero] at hS
        rw [sN_8 hyi.1]
        repeat' (first | ((with_reducible refine Ad ?_); first | ((first | refine Bn Aa ?_) <;> refine Ac ?_)) | ((fail_if_success (with_reducible refine Ad ?_)); first | go_step | go_step3 | rw [Exit.noGoto_normal] | rw [Exit.noGoto_ret] | rw [Exit.noGoto_exit]))
        refine any_turn2 1 5 (by kernel_rfl) (by rfl) (by rfl) ?_ ?_
        · repeat' (first | ((with_reducible refine Ad ?_); first | ((first | refine Bn Aa ?_ | refine Bf Aa Ab hS ?_) <;> refine Ac ?_)) | ((fail_if_success (with_reducible refine Ad ?_)); first | go_step | go_step3 | rw [Exit.noGoto_normal] | rw [Exit.noGoto_ret] | rw [Exit.noGoto_exit]))
          refine any_turn 5 (by kernel_rfl) (by rfl) ?_
          refine s_call Aa (by rfl) (by rfl) (by rfl) (by rfl) (by rfl) (by infer_instance) (next_8 (beB (u64W y2) 8) Y (beB_len _ _) nY mY _ _ _ _ _ hS (by rw [hX]; exact BL.inn (.inr ⟨g7, c7, sp7, rfl, a1, a2, a3, rfl⟩) hS (by intro x hx; simp at hx; simp [hx]))) ?_
          clear a1 a2 a3
          rintro e w1 ⟨sv1, Lr1, rfl, hB1, hS1⟩
          refine ⟨_, rfl, ?_⟩
          refine Ac ?_
          replace hS := hS1
          rcases hB1 with ⟨_, e0, _⟩ | ⟨g8, c8, sp8, rfl, a1, a2, a3, rfl⟩
          · exact absurd e0 nY
          simp only [List.cons_append, List.nil_append] at hS
          clear hS1
          replace hS := hS.erase 2
          simp only [List.eraseIdx_cons_succ, List.eraseIdx_cons_zero] at hS
          rw [sN_8 hyi.2]
          repeat' (first | ((with_reducible refine Ad ?_); first | ((first | refine Bn Aa ?_) <;> refine Ac ?_)) | ((fail_if_success (with_reducible refine Ad ?_)); first | go_step | go_step3 | rw [Exit.noGoto_normal] | rw [Exit.noGoto_ret] | rw [Exit.noGoto_exit]))
          refine any_turn 6 (by kernel_rfl) (by rfl) ?_
          repeat' (first | ((with_reducible refine Ad ?_); first | ((first | refine Bn Aa ?_ | refine Bj Aa ?_ | refine Bk Aa ?_) <;> refine Ac ?_) | ((first | refine Ba Aa Ab hS ?_ | refine Bd Aa Ab hS ?_); clear hS; intro b w hS; refine Ac ?_)) | ((fail_if_success (with_reducible refine Ad ?_)); first | go_step | go_step3 | rw [Exit.noGoto_normal] | rw [Exit.noGoto_ret] | rw [Exit.noGoto_exit]))
          refine any_turn 7 (by kernel_rfl) (by rfl) ?_
          repeat' (first | ((with_reducible refine Ad ?_); first | ((first | refine Bn Aa ?_ | refine Bk Aa ?_) <;> refine Ac ?_) | ((first | refine Ba Aa Ab hS ?_ | refine Bd Aa Ab hS ?_); clear hS; intro b w hS; refine Ac ?_)) | ((fail_if_success (with_reducible refine Ad ?_)); first | go_step | go_step3 | rw [Exit.noGoto_normal] | rw [Exit.noGoto_ret] | rw [Exit.noGoto_exit]))
          refine any_turn 8 (by kernel_rfl) (by rfl) ?_
          refine s_app (L := [_, _, _, _, _]) (hS.perm (.cons _ (List.perm_append_comm (l₁ := [_, _, _, _, _])))) hR hll (by rfl) (by rfl) (by rfl) (by rfl) ?_
          intro sv' Lr' w' hR' hS'
          rw [← htk] at hR'
          obtain ⟨p9, c9, rfl⟩ := hR'.slice
          refine Ac ?_
          replace hS := St.perm hS' (List.perm_append_comm (l₂ := [_, _, _, _, _]))
          simp only [List.cons_append, List.nil_append] at hS
          clear hS'
          repeat' (first | ((with_reducible refine Ad ?_); first | ((first | refine Bn Aa ?_) <;> refine Ac ?_)) | ((fail_if_success (with_reducible refine Ad ?_)); first | go_step | go_step3 | rw [Exit.noGoto_normal] | rw [Exit.noGoto_ret] | rw [Exit.noGoto_exit]))
          (refine any_pull 9 (by kernel_rfl) (by rfl) (by rfl) (by exact fun _ _ _ _ h => h) ?_; apply Exists.intro; refine ⟨fun C w' => ?_, ?_⟩; (focus (first | exact Ch)); refine wa_put ?_)
          refine any_turn 10 (by kernel_rfl) (by rfl) ?_
          repeat' (first | ((with_reducible refine Ad ?_); first | ((first | refine Bn Aa ?_) <;> refine Ac ?_) | ((first | refine Av Aa Ab hS ?_); clear hS; intro w hS; refine Ac ?_)) | ((fail_if_success (with_reducible refine Ad ?_)); first | go_step | go_step3 | rw [Exit.noGoto_normal] | rw [Exit.noGoto_ret] | rw [Exit.noGoto_exit]))
          refine any_done (by kernel_rfl) ?_
          repeat' (first | ((with_reducible refine Ad ?_); first | ((first | refine Bn Aa ?_ | refine Bm Aa ?_ | refine Az Aa ?_ | refine Bf Aa Ab hS ?_ | refine Bi Aa Ab hS ?_ | refine Ao Aa ?_ | refine Bw Aa ?_ | refine Br Aa ?_ | refine Be Aa ?_ | refine Bg Aa ?_ | refine Bv Aa (fun hc => ?_) (fun hc => ?_) | refine Ay Aa ?_ | refine Am Aa ?_ | refine Ah Aa ?_ | refine g_neqSlNil Aa ?_ | refine Ae Aa ?_ | refine Bo Aa ?_ | refine Bc Aa ?_ | refine As Aa ?_ | refine Ak Aa ?_ | refine Bj Aa ?_ | refine Bk Aa ?_) <;> refine Ac ?_) | ((first | refine Bh Aa Ab hS ?_ | refine Bt Aa Ab hS ?_ | refine Ba Aa Ab hS ?_ | refine Bd Aa Ab hS ?_); clear hS; intro b w hS; refine Ac ?_) | ((first | refine Av Aa Ab hS ?_ | refine Au Aa Ab hS ?_ | refine Bb Aa Ab hS ?_); clear hS; intro w hS; refine Ac ?_)) | ((fail_if_success (with_reducible refine Ad ?_)); first | go_step | go_step3 | rw [Exit.noGoto_normal] | rw [Exit.noGoto_ret] | rw [Exit.noGoto_exit]))
          go_roundw
          case rel => exact ⟨k + 1, _, _, Lr', [_], by omega, by push_cast; rfl, hR', .inr ⟨g8, c8, sp8, by rw [hY], by rw [hY]; exact a1, a2, by rw [hY]; exact a3, by rw [hY]⟩, hS.perm (.cons _ (.trans (.swap _ _ _) (.cons _ (.trans (.swap _ _ _) (.cons _ (.swap _ _ _))))))⟩
          case measure => first | (simp [intOf]; done) | (simp [intOf]; omega)
        · refine s_call Aa (by rfl) (by rfl) (by rfl) (by rfl) (by rfl) (by infer_instance) (next_8 (beB (u64W y2) 8) Y (beB_len _ _) nY mY _ _ _ _ _ hS (by rw [hX]; exact BL.inn (.inr ⟨g7, c7, sp7, rfl, a1, a2, a3, rfl⟩) hS (by intro x hx; simp at hx; simp [hx]))) ?_
          clear a1 a2 a3
          rintro e w1 ⟨sv1, Lr1, rfl, hB1, hS1⟩
          refine ⟨_, rfl, ?_⟩
          refine Ac ?_
          replace hS := hS1
          rcases hB1 with ⟨_, e0, _⟩ | ⟨g8, c8, sp8, rfl, a1, a2, a3, rfl⟩
          · exact absurd e0 nY
          simp only [List.cons_append, List.nil_append] at hS
          clear hS1
          replace hS := hS.erase 2
          simp only [List.eraseIdx_cons_succ, List.eraseIdx_cons_zero] at hS
          rw [sN_8 hyi.2]
          repeat' (first | ((with_reducible refine Ad ?_); first | ((first | refine Bn Aa ?_) <;> refine Ac ?_)) | ((fail_if_success (with_reducible refine Ad ?_)); first | go_step | go_step3 | rw [Exit.noGoto_normal] | rw [Exit.noGoto_ret] | rw [Exit.noGoto_exit]))
          refine any_turn2 1 6 (by kernel_rfl) (by rfl) (by rfl) ?_ ?_
          · repeat' (first | ((with_reducible refine Ad ?_); first | ((first | refine Bn Aa ?_ | refine Bf Aa Ab hS ?_) <;> refine Ac ?_)) | ((fail_if_success (with_reducible refine Ad ?_)); first | go_step | go_step3 | rw [Exit.noGoto_normal] | rw [Exit.noGoto_ret] | rw [Exit.noGoto_exit]))
            refine any_turn 6 (by kernel_rfl) (by rfl) ?_
            repeat' (first | ((with_reducible refine Ad ?_); first | ((first | refine Bn Aa ?_ | refine Bj Aa ?_ | refine Bk Aa ?_) <;> refine Ac ?_) | ((first | refine Ba Aa Ab hS ?_ | refine Bd Aa Ab hS ?_); clear hS; intro b w hS; refine Ac ?_)) | ((fail_if_success (with_reducible refine Ad ?_)); first | go_step | go_step3 | rw [Exit.noGoto_normal] | rw [Exit.noGoto_ret] | rw [Exit.noGoto_exit]))
            refine any_turn 7 (by kernel_rfl) (by rfl) ?_
            repeat' (first | ((with_reducible refine Ad ?_); first | ((first | refine Bn Aa ?_ | refine Bk Aa ?_) <;> refine Ac ?_) | ((first | refine Ba Aa Ab hS ?_ | refine Bd Aa Ab hS ?_); clear hS; intro b w hS; refine Ac ?_)) | ((fail_if_success (with_reducible refine Ad ?_)); first | go_step | go_step3 | rw [Exit.noGoto_normal] | rw [Exit.noGoto_ret] | rw [Exit.noGoto_exit]))
            refine any_turn 8 (by kernel_rfl) (by rfl) ?_
            refine s_app (L := [_, _, _, _, _]) (hS.perm (.cons _ (List.perm_append_comm (l₁ := [_, _, _, _, _])))) hR hll (by rfl) (by rfl) (by rfl) (by rfl) ?_
            intro sv' Lr' w' hR' hS'
            rw [← htk] at hR'
            obtain ⟨p9, c9, rfl⟩ := hR'.slice
            refine Ac ?_
            replace hS := St.perm hS' (List.perm_append_comm (l₂ := [_, _, _, _, _]))
            simp only [List.cons_append, List.nil_append] at hS
            clear hS'
            repeat' (first | ((with_reducible refine Ad ?_); first | ((first | refine Bn Aa ?_) <;> refine Ac ?_)) | ((fail_if_success (with_reducible refine Ad ?_)); first | go_step | go_step3 | rw [Exit.noGoto_normal] | rw [Exit.noGoto_ret] | rw [Exit.noGoto_exit]))
            (refine any_pull 9 (by kernel_rfl) (by rfl) (by rfl) (by exact fun _ _ _ _ h => h) ?_; apply Exists.intro; refine ⟨fun C w' => ?_, ?_⟩; (focus (first | exact Ch)); refine wa_put ?_)
            refine any_turn 10 (by kernel_rfl) (by rfl) ?_
            repeat' (first | ((with_reducible refine Ad ?_); first | ((first | refine Bn Aa ?_) <;> refine Ac ?_) | ((first | refine Av Aa Ab hS ?_); clear hS; intro w hS; refine Ac ?_)) | ((fail_if_success (with_reducible refine Ad ?_)); first | go_step | go_step3 | rw [Exit.noGoto_normal] | rw [Exit.noGoto_ret] | rw [Exit.noGoto_exit]))
            refine any_done (by kernel_rfl) ?_
            repeat' (first | ((with_reducible refine Ad ?_); first | ((first | refine Bn Aa ?_ | refine Bm Aa ?_ | refine Az Aa ?_ | refine Bf Aa Ab hS ?_ | refine Bi Aa Ab hS ?_ | refine Ao Aa ?_ | refine Bw Aa ?_ | refine Br Aa ?_ | refine Be Aa ?_ | refine Bg Aa ?_ | refine Bv Aa (fun hc => ?_) (fun hc => ?_) | refine Ay Aa ?_ | refine Am Aa ?_ | refine Ah Aa ?_ | refine g_neqSlNil Aa ?_ | refine Ae Aa ?_ | refine Bo Aa ?_ | refine Bc Aa ?_ | refine As Aa ?_ | refine Ak Aa ?_ | refine Bj Aa ?_ | refine Bk Aa ?_) <;> refine Ac ?_) | ((first | refine Bh Aa Ab hS ?_ | refine Bt Aa Ab hS ?_ | refine Ba Aa Ab hS ?_ | refine Bd Aa Ab hS ?_); clear hS; intro b w hS; refine Ac ?_) | ((first | refine Av Aa Ab hS ?_ | refine Au Aa Ab hS ?_ | refine Bb Aa Ab hS ?_); clear hS; intro w hS; refine Ac ?_)) | ((fail_if_success (with_reducible refine Ad ?_)); first | go_step | go_step3 | rw [Exit.noGoto_normal] | rw [Exit.noGoto_ret] | rw [Exit.noGoto_exit]))
            go_roundw
            case rel => exact ⟨k + 1, _, _, Lr', [_], by omega, by push_cast; rfl, hR', .inr ⟨g8, c8, sp8, by rw [hY], by rw [hY]; exact a1, a2, by rw [hY]; exact a3, by rw [hY]⟩, hS.perm (.cons _ (.trans (.swap _ _ _) (.cons _ (.trans (.swap _ _ _) (.cons _ (.swap _ _ _))))))⟩
            case measure => first | (simp [intOf]; done) | (simp [intOf]; omega)
          · repeat' (first | ((with_reducible refine Ad ?_); first | ((first | refine Bn Aa ?_ | refine Bj Aa ?_ | refine Bk Aa ?_) <;> refine Ac ?_) | ((first | refine Ba Aa Ab hS ?_ | refine Bd Aa Ab hS ?_); clear hS; intro b w hS; refine Ac ?_)) | ((fail_if_success (with_reducible refine Ad ?_)); first | go_step | go_step3 | rw [Exit.noGoto_normal] | rw [Exit.noGoto_ret] | rw [Exit.noGoto_exit]))
            refine any_turn2 1 7 (by kernel_rfl) (by rfl) (by rfl) ?_ ?_
            · repeat' (first | ((with_reducible refine Ad ?_); first | ((first | refine Bn Aa ?_ | refine Bf Aa Ab hS ?_) <;> refine Ac ?_)) | ((fail_if_success (with_reducible refine Ad ?_)); first | go_step | go_step3 | rw [Exit.noGoto_normal] | rw [Exit.noGoto_ret] | rw [Exit.noGoto_exit]))
              refine any_turn 7 (by kernel_rfl) (by rfl) ?_
              repeat' (first | ((with_reducible refine Ad ?_); first | ((first | refine Bn Aa ?_ | refine Bk Aa ?_) <;> refine Ac ?_) | ((first | refine Ba Aa Ab hS ?_ | refine Bd Aa Ab hS ?_); clear hS; intro b w hS; refine Ac ?_)) | ((fail_if_success (with_reducible refine Ad ?_)); first | go_step | go_step3 | rw [Exit.noGoto_normal] | rw [Exit.noGoto_ret] | rw [Exit.noGoto_exit]))
              refine any_turn 8 (by kernel_rfl) (by rfl) ?_
              refine s_app (L := [_, _, _, _, _]) (hS.perm (.cons _ (List.perm_append_comm (l₁ := [_, _, _, _, _])))) hR hll (by rfl) (by rfl) (by rfl) (by rfl) ?_
              intro sv' Lr' w' hR' hS'
              rw [← htk] at hR'
              obtain ⟨p9, c9, rfl⟩ := hR'.slice
              refine Ac ?_
              replace hS := St.perm hS' (List.perm_append_comm (l₂ := [_, _, _, _, _]))
              simp only [List.cons_append, List.nil_append] at hS
              clear hS'
              repeat' (first | ((with_reducible refine Ad ?_); first | ((first | refine Bn Aa ?_) <;> refine Ac ?_)) | ((fail_if_success (with_reducible refine Ad ?_)); first | go_step | go_step3 | rw [Exit.noGoto_normal] | rw [Exit.noGoto_ret] | rw [Exit.noGoto_exit]))
              (refine any_pull 9 (by kernel_rfl) (by rfl) (by rfl) (by exact fun _ _ _ _ h => h) ?_; apply Exists.intro; refine ⟨fun C w' => ?_, ?_⟩; (focus (first | exact Ch)); refine wa_put ?_)
              refine any_turn 10 (by kernel_rfl) (by rfl) ?_
              repeat' (first | ((with_reducible refine Ad ?_); first | ((first | refine Bn Aa ?_) <;> refine Ac ?_) | ((first | refine Av Aa Ab hS ?_); clear hS; intro w hS; refine Ac ?_)) | ((fail_if_success (with_reducible refine Ad ?_)); first | go_step | go_step3 | rw [Exit.noGoto_normal] | rw [Exit.noGoto_ret] | rw [Exit.noGoto_exit]))
              refine any_done (by kernel_rfl) ?_
              repeat' (first | ((with_reducible refine Ad ?_); first | ((first | refine Bn Aa ?_ | refine Bm Aa ?_ | refine Az Aa ?_ | refine Bf Aa Ab hS ?_ | refine Bi Aa Ab hS ?_ | refine Ao Aa ?_ | refine Bw Aa ?_ | refine Br Aa ?_ | refine Be Aa ?_ | refine Bg Aa ?_ | refine Bv Aa (fun hc => ?_) (fun hc => ?_) | refine Ay Aa ?_ | refine Am Aa ?_ | refine Ah Aa ?_ | refine g_neqSlNil Aa ?_ | refine Ae Aa ?_ | refine Bo Aa ?_ | refine Bc Aa ?_ | refine As Aa ?_ | refine Ak Aa ?_ | refine Bj Aa ?_ | refine Bk Aa ?_) <;> refine Ac ?_) | ((first | refine Bh Aa Ab hS ?_ | refine Bt Aa Ab hS ?_ | refine Ba Aa Ab hS ?_ | refine Bd Aa Ab hS ?_); clear hS; intro b w hS; refine Ac ?_) | ((first | refine Av Aa Ab hS ?_ | refine Au Aa Ab hS ?_ | refine Bb Aa Ab hS ?_); clear hS; intro w hS; refine Ac ?_)) | ((fail_if_success (with_reducible refine Ad ?_)); first | go_step | go_step3 | rw [Exit.noGoto_normal] | rw [Exit.noGoto_ret] | rw [Exit.noGoto_exit]))
              go_roundw
              case rel => exact ⟨k + 1, _, _, Lr', [_], by omega, by push_cast; rfl, hR', .inr ⟨g8, c8, sp8, by rw [hY], by rw [hY]; exact a1, a2, by rw [hY]; exact a3, by rw [hY]⟩, hS.perm (.cons _ (.trans (.swap _ _ _) (.cons _ (.trans (.swap _ _ _) (.cons _ (.swap _ _ _))))))⟩
              case measure => first | (simp [intOf]; done) | (simp [intOf]; omega)
            · repeat' (first | ((with_reducible refine Ad ?_); first | ((first | refine Bn Aa ?_ | refine Bk Aa ?_) <;> refine Ac ?_) | ((first | refine Ba Aa Ab hS ?_ | refine Bd Aa Ab hS ?_); clear hS; intro b w hS; refine Ac ?_)) | ((fail_if_success (with_reducible refine Ad ?_)); first | go_step | go_step3 | rw [Exit.noGoto_normal] | rw [Exit.noGoto_ret] | rw [Exit.noGoto_exit]))
              refine any_turn 1 (by kernel_rfl) (by rfl) ?_
              repeat' (first | ((with_reducible refine Ad ?_); first | ((first | refine Bn Aa ?_ | refine Bf Aa Ab hS ?_) <;> refine Ac ?_)) | ((fail_if_success (with_reducible refine Ad ?_)); first | go_step | go_step3 | rw [Exit.noGoto_normal] | rw [Exit.noGoto_ret] | rw [Exit.noGoto_exit]))
              refine any_turn 8 (by kernel_rfl) (by rfl) ?_
              refine s_app (L := [_, _, _, _, _]) (hS.perm (.cons _ (List.perm_append_comm (l₁ := [_, _, _, _, _])))) hR hll (by rfl) (by rfl) (by rfl) (by rfl) ?_
              intro sv' Lr' w' hR' hS'
              rw [← htk] at hR'
              obtain ⟨p9, c9, rfl⟩ := hR'.slice
              refine Ac ?_
              replace hS := St.perm hS' (List.perm_append_comm (l₂ := [_, _, _, _, _]))
              simp only [List.cons_append, List.nil_append] at hS
              clear hS'
              repeat' (first | ((with_reducible refine Ad ?_); first | ((first | refine Bn Aa ?_) <;> refine Ac ?_)) | ((fail_if_success (with_reducible refine Ad ?_)); first | go_step | go_step3 | rw [Exit.noGoto_normal] | rw [Exit.noGoto_ret] | rw [Exit.noGoto_exit]))
              (refine any_pull 9 (by kernel_rfl) (by rfl) (by rfl) (by exact fun _ _ _ _ h => h) ?_; apply Exists.intro; refine ⟨fun C w' => ?_, ?_⟩; (focus (first | exact Ch)); refine wa_put ?_)
              refine any_turn 10 (by kernel_rfl) (by rfl) ?_
              repeat' (first | ((with_reducible refine Ad ?_); first | ((first | refine Bn Aa ?_) <;> refine Ac ?_) | ((first | refine Av Aa Ab hS ?_); clear hS; intro w hS; refine Ac ?_)) | ((fail_if_success (with_reducible refine Ad ?_)); first | go_step | go_step3 | rw [Exit.noGoto_normal] | rw [Exit.noGoto_ret] | rw [Exit.noGoto_exit]))
              refine any_done (by kernel_rfl) ?_
              repeat' (first | ((with_reducible refine Ad ?_); first | ((first | refine Bn Aa ?_ | refine Bm Aa ?_ | refine Az Aa ?_ | refine Bf Aa Ab hS ?_ | refine Bi Aa Ab hS ?_ | refine Ao Aa ?_ | refine Bw Aa ?_ | refine Br Aa ?_ | refine Be Aa ?_ | refine Bg Aa ?_ | refine Bv Aa (fun hc => ?_) (fun hc => ?_) | refine Ay Aa ?_ | refine Am Aa ?_ | refine Ah Aa ?_ | refine g_neqSlNil Aa ?_ | refine Ae Aa ?_ | refine Bo Aa ?_ | refine Bc Aa ?_ | refine As Aa ?_ | refine Ak Aa ?_ | refine Bj Aa ?_ | refine Bk Aa ?_) <;> refine Ac ?_) | ((first | refine Bh Aa Ab hS ?_ | refine Bt Aa Ab hS ?_ | refine Ba Aa Ab hS ?_ | refine Bd Aa Ab hS ?_); clear hS; intro b w hS; refine Ac ?_) | ((first | refine Av Aa Ab hS ?_ | refine Au Aa Ab hS ?_ | refine Bb Aa Ab hS ?_); clear hS; intro w hS; refine Ac ?_)) | ((fail_if_success (with_reducible refine Ad ?_)); first | go_step | go_step3 | rw [Exit.noGoto_normal] | rw [Exit.noGoto_ret] | rw [Exit.noGoto_exit]))
              go_roundw
              case rel => exact ⟨k + 1, _, _, Lr', [_], by omega, by push_cast; rfl, hR', .inr ⟨g8, c8, sp8, by rw [hY], by rw [hY]; exact a1, a2, by rw [hY]; exact a3, by rw [hY]⟩, hS.perm (.cons _ (.trans (.swap _ _ _) (.cons _ (.trans (.swap _ _ _) (.cons _ (.swap _ _ _))))))⟩
              case measure => first | (simp [intOf]; done) | (simp [intOf]; omega)
    · obtain rfl : k = l.length := by omega
      rw [List.take_length] at hR
      have hR2 := hR.slice
      obtain ⟨p9, c9, rfl⟩ := hR2
      have hN : ∀ (w : World) (v : Value), RegsAt w v l → Calls Try.prog 23 #[.agg #[v, .int .i64 h, .int .i64 t, .bool s, .int .i64 g]] w fun e w' => e = .returned (.tuple #[.agg (bvs C), .nilIface]) ∧ Below w.heap.size w w' := by
        intro w v hv
        rw [← hC]
        cases s
        · exact note_false l h t g hG v w hv
        · exact note_true l h t g hG v w hv
      repeat' (first | ((with_reducible refine Ad ?_); first | ((first | refine Bn Aa ?_ | refine Bm Aa ?_ | refine Az Aa ?_ | refine Bf Aa Ab hS ?_ | refine Bi Aa Ab hS ?_ | refine Ao Aa ?_ | refine Bw Aa ?_ | refine Br Aa ?_ | refine Be Aa ?_ | refine Bg Aa ?_ | refine Bv Aa (fun hc => ?_) (fun hc => ?_) | refine Ay Aa ?_ | refine Am Aa ?_ | refine Ah Aa ?_ | refine g_neqSlNil Aa ?_ | refine Ae Aa ?_ | refine Bo Aa ?_ | refine Bc Aa ?_ | refine As Aa ?_ | refine Ak Aa ?_ | refine Bj Aa ?_ | refine Bk Aa ?_) <;> refine Ac ?_) | ((first | refine Bh Aa Ab hS ?_ | refine Bt Aa Ab hS ?_ | refine Ba Aa Ab hS ?_ | refine Bd Aa Ab hS ?_); clear hS; intro b w hS; refine Ac ?_) | ((first | refine Av Aa Ab hS ?_ | refine Au Aa Ab hS ?_ | refine Bb Aa Ab hS ?_); clear hS; intro w hS; refine Ac ?_) | (refine Cb Aa Ab hS (hN _ _ (hR.inn hS (by intro x hx; simp [hx]))) ?_; clear hS; intro w hS; refine Ac ?_) | (refine Stp.go Aa (by rfl) (by rfl) (r_neA (n := 128) (by rfl) (by rfl) (by rfl) (by kernel_rfl) (by kernel_rfl) lC lC (show (!(C == C)) = false by simp)) ?_; refine Ac ?_)) | ((fail_if_success (with_reducible refine Ad ?_)); first | go_step | go_step3 | rw [Exit.noGoto_normal] | rw [Exit.noGoto_ret] | rw [Exit.noGoto_exit]))
      exact De (n := 5) Try.results27 (by kernel_rfl) (.inl rfl) _ _ _ _ rfl rfl (hS.blk 3 rfl) (by rfl) ⟨_, rfl, hR.own (L := _ :: _ :: _ :: _ :: _ :: Lb) (hS.perm (List.perm_append_comm (l₁ := _ :: _ :: _ :: _ :: _ :: Lb))), hS.below⟩
end Go.Proofs.Ytkfggilildiflac

namespace Go.Proofs.Ytkfggilildiflac
open Go.ChangeShapes Go.WideShapes Go.ChangeAt Go.RowKit
attribute [local irreducible] wpList wpListIn Oper.quietAt wpM
theorem r_eqBo {P : Program} {o : Oper} {a : Act} {w : World} {t t' : TypeId} {x y : Operand} {m n q : Bool} (hop : o.op = .binOp .eql t x y t') (hx : evO a x = some (.bool m)) (hy : evO a y = some (.bool n)) (ht : P.underlying t = some .bool) (hq : (m == n) = q) : (execOp a.eval o).run P w = .ok (.value (.bool q)) w := by
  unfold execOp; rw [hop]; subst hq
  simp [Ct hx, Ct hy, eqGuard, binOp, run_equal_bool w t m n ht]
set_option maxRecDepth 100000 in
set_option maxHeartbeats 8000000 in
theorem equal_same (l : List Rg) (va vb : Value) (w0 : World) (hva : RegsAt w0 va l) (hvb : RegsAt w0 vb l) (hm : l.length ≤ 1000000) :
    Calls Try.prog 49 #[va, vb] w0 fun e w' => e = .returned (.bool true) ∧ Below w0.heap.size w0 w' := by
  obtain ⟨pa, ca, rfl, hca⟩ := hva.slice
  obtain ⟨pb, cb, rfl, hcb⟩ := hvb.slice
  have hS := St.start w0
  go_enter Try.func49, Try.ntmps49
  repeat' (first | ((with_reducible refine Ad ?_); first | ((first | refine Bn Aa ?_ | refine Bm Aa ?_ | refine Az Aa ?_ | refine Bi Aa Ab hS ?_ | refine Ag Aa ?_ | refine Af Aa ?_ | refine Bs Aa ?_ | refine Bw Aa ?_ | refine Be Aa ?_ | refine Bg Aa ?_ | refine Bv Aa (fun hc => ?_) (fun hc => ?_)) <;> refine Ac ?_)) | ((fail_if_success (with_reducible refine Ad ?_)); first | go_step | go_step3 | rw [Exit.noGoto_normal] | rw [Exit.noGoto_ret] | rw [Exit.noGoto_exit]))
  go_loopw [13] (fun u5 wr => ∃ k : Nat, k ≤ l.length ∧ u5 = .int .i64 (k : Int) ∧ St w0 wr []) (fun u5 _ => l.length - (intOf u5).toNat)
  case atStart => exact ⟨0, by omega, rfl, hS⟩
  case round =>
    obtain ⟨k, hk, rfl, hS⟩ := hrel
    by_cases hlt : k < l.length
    · obtain ⟨r1, o1, c1, t1, f1, rfl, hb1, hcell1⟩ := hva.open_ (by omega)
      obtain ⟨r2, o2, c2, t2, f2, rfl, hb2, hcell2⟩ := hvb.open_ (by omega)
      have q1 := csz_reg hcell1 hlt
      have q2 := csz_reg hcell2 hlt
      have hcut1 := cut_reg hcell1 hlt
      have hcut2 := cut_reg hcell2 hlt
      obtain ⟨⟨x1, x2⟩, hx⟩ : ∃ x, l.getD k (0, 0) = x := ⟨_, rfl⟩
      rw [hx] at hcut1 hcut2
      dsimp only at hcut1 hcut2
      have hQ : (!(x1 == x1 && x2 == x2)) = false := by simp
      repeat' (first | ((with_reducible refine Ad ?_); first | ((first | refine Bn Aa ?_ | refine Bm Aa ?_ | refine Az Aa ?_ | refine Bi Aa Ab hS ?_ | refine Ag Aa ?_ | refine Af Aa ?_ | refine Bs Aa ?_ | refine Bw Aa ?_ | refine Be Aa ?_ | refine Bg Aa ?_ | refine Bv Aa (fun hc => ?_) (fun hc => ?_)) <;> refine Ac ?_)) | ((fail_if_success (with_reducible refine Ad ?_)); first | go_step | go_step3 | rw [Exit.noGoto_normal] | rw [Exit.noGoto_ret] | rw [Exit.noGoto_exit]))
      refine Cd 9 (by kernel_rfl) (by kernel_rfl) ?_
      dsimp only [List.take, List.drop]
      iterate 9 (first | (refine Dd (fun _ => rfl) ?_; simp only [Act.put, List.setIfInBounds_toArray, List.set_cons_zero, List.set_cons_succ]) | (refine Cr rfl (fun _ => rfl) _ (fun w => r_alloc (a := ⟨#[], []⟩) rfl (by infer_instance)) ?_; simp only [Act.put, List.setIfInBounds_toArray, List.set_cons_zero, List.set_cons_succ]) | (refine Cm rfl (fun _ => rfl) (fun K hK => ?_); apply Exists.intro; apply Exists.intro; apply Exists.intro; apply Exists.intro; refine ⟨fun pB w' hw' hF => ?_, hK _ _ ?_⟩; (focus (exact Cg (by rfl) (by rfl) (by infer_instance) (by rfl) (by repeat (first | exact (fun _ h => absurd h List.not_mem_nil) | refine List.forall_mem_cons.2 ⟨by first | rfl | (simp only [Value.cells]; first | rfl | omega), ?_⟩)) (by (try conv => lhs; simp only [List.flatMap_cons, List.flatMap_nil, Value.cells, List.append_nil, List.cons_append, List.nil_append]); first | done | rfl) (by decide) (by decide))); clear hK K; simp only [Act.put, List.setIfInBounds_toArray, List.set_cons_zero, List.set_cons_succ]) | (refine Cx (fun _ => rfl) (fun K hK => ?_); apply Exists.intro; refine ⟨fun pB w' hw' hF => ?_, hK _ _ ?_⟩; (focus (have hZ := (Ab).call hS hw'; first | exact (q_val (r_neReg (by rfl) (by rfl) (by rfl) (by kernel_rfl) hQ)) | exact Dv | exact Cz | exact Dk Ab hZ (hv := by first | rfl | exact Bl | (rw [Array.getElem?_toList]; first | exact hcut1 | exact hcut2)) | exact Dr (by first | exact ((hZ).far hb1).1) (hv := by first | rfl | exact Bl | (rw [Array.getElem?_toList]; first | exact hcut1 | exact hcut2)) | exact Dr (by first | exact ((hZ).far hb2).1) (hv := by first | rfl | exact Bl | (rw [Array.getElem?_toList]; first | exact hcut1 | exact hcut2)) | exact Dl Ab hZ (hv := by first | exact Bq _ _ (by (try simp only [Ca, Ce, Bz, List.length_append, List.length_set, zs_len, List.length_take, List.length_drop, List.length_cons, List.length_nil]); first | done | rfl | omega) | (first | exact hcut1 | exact hcut2) | rfl) | exact Dt (by first | exact ((hZ).far hb1).1) (hv := by first | exact Bq _ _ (by (try simp only [Ca, Ce, Bz, List.length_append, List.length_set, zs_len, List.length_take, List.length_drop, List.length_cons, List.length_nil]); first | done | rfl | omega) | (first | exact hcut1 | exact hcut2) | rfl) | exact Dt (by first | exact ((hZ).far hb2).1) (hv := by first | exact Bq _ _ (by (try simp only [Ca, Ce, Bz, List.length_append, List.length_set, zs_len, List.length_take, List.length_drop, List.length_cons, List.length_nil]); first | done | rfl | omega) | (first | exact hcut1 | exact hcut2) | rfl) | exact Ci | exact Cf | exact Dz | exact Dx | exact Co | exact Dy | exact Dw | exact q_mul | exact q_quo | exact q_rem | exact Dn | exact Dm | exact Dc | exact Cp | exact Cw | exact Cq | exact Ch | exact Db (hv' := by first | rfl | exact Bl | (rw [Array.getElem?_toList]; first | exact hcut1 | exact hcut2)) | exact Cy | exact Cj | exact q_neqSlNil | exact Cc | exact Cl | exact Du | exact Ds | exact Ea | exact Dj | exact Da | exact Ck | exact Dg | exact Df | exact Cn)); clear hK K; simp only [Act.put, List.setIfInBounds_toArray, List.set_cons_zero, List.set_cons_succ]))
      refine Di ?_
      intro pB w hcq hfq hnq
      replace hS := (Ab).news hS hcq _ (by first | decide | simp) hfq hnq
      first | simp only [List.map_nil, List.nil_append] at hS | simp only [List.map_cons, List.map_nil, List.cons_append, List.nil_append] at hS
      clear hcq hfq hnq
      try dsimp only
      repeat' (first | ((with_reducible refine Ad ?_); first | ((first | refine Bn Aa ?_ | refine Bm Aa ?_ | refine Az Aa ?_ | refine Bi Aa Ab hS ?_ | refine Ag Aa ?_ | refine Af Aa ?_ | refine Bs Aa ?_ | refine Bw Aa ?_ | refine Be Aa ?_ | refine Bg Aa ?_ | refine Bv Aa (fun hc => ?_) (fun hc => ?_)) <;> refine Ac ?_)) | ((fail_if_success (with_reducible refine Ad ?_)); first | go_step | go_step3 | rw [Exit.noGoto_normal] | rw [Exit.noGoto_ret] | rw [Exit.noGoto_exit]))
      go_roundw
      case rel => exact ⟨k + 1, by omega, by push_cast; rfl, hS⟩
      case measure => simp [intOf]; omega
    · obtain rfl : k = l.length := by omega
      repeat' (first | ((with_reducible refine Ad ?_); first | ((first | refine Bn Aa ?_ | refine Bm Aa ?_ | refine Az Aa ?_ | refine Bi Aa Ab hS ?_ | refine Ag Aa ?_ | refine Af Aa ?_ | refine Bs Aa ?_ | refine Bw Aa ?_ | refine Be Aa ?_ | refine Bg Aa ?_ | refine Bv Aa (fun hc => ?_) (fun hc => ?_)) <;> refine Ac ?_)) | ((fail_if_success (with_reducible refine Ad ?_)); first | go_step | go_step3 | rw [Exit.noGoto_normal] | rw [Exit.noGoto_ret] | rw [Exit.noGoto_exit]))
      go_ret
      exact ⟨rfl, hS.below⟩
set_option maxRecDepth 100000 in
set_option maxHeartbeats 8000000 in
theorem same_same (l : List Rg) (va vb : Value) (h t g : Int) (s : Bool) (w0 : World) (hva : RegsAt w0 va l) (hvb : RegsAt w0 vb l) (hm : l.length ≤ 1000000) :
    Calls Try.prog 28 #[.agg #[va, .int .i64 h, .int .i64 t, .bool s, .int .i64 g], .agg #[vb, .int .i64 h, .int .i64 t, .bool s, .int .i64 g]] w0 fun e w' => e = .returned (.bool true) ∧ Below w0.heap.size w0 w' := by
  obtain ⟨pa, ca, rfl, hca⟩ := hva.slice
  obtain ⟨pb, cb, rfl, hcb⟩ := hvb.slice
  have hS := St.start w0
  go_enter Try.func28, Try.ntmps28
  repeat' (first | ((with_reducible refine Ad ?_); first | ((first | refine Bn Aa ?_ | refine Bm Aa ?_ | refine Az Aa ?_ | refine Bf Aa Ab hS ?_ | refine Be Aa ?_ | refine Bg Aa ?_ | refine Bv Aa (fun hc => ?_) (fun hc => ?_) | refine Ah Aa ?_ | refine Bo Aa ?_) <;> refine Ac ?_) | ((first | refine Bt Aa Ab hS ?_); clear hS; intro b w hS; refine Ac ?_) | (refine Cb Aa Ab hS (equal_same l _ _ _ (hva.below hS.below) (hvb.below hS.below) hm) ?_; clear hS; intro w hS; refine Ac ?_) | (refine Stp.go Aa (by rfl) (by rfl) (r_eqBo (by rfl) (by rfl) (by rfl) (by rfl) (show (s == s) = true by simp)) ?_; refine Ac ?_)) | ((fail_if_success (with_reducible refine Ad ?_)); first | go_step | go_step3 | rw [Exit.noGoto_normal] | rw [Exit.noGoto_ret] | rw [Exit.noGoto_exit]))
  go_ret
  exact ⟨rfl, hS.below⟩
end Go.Proofs.Ytkfggilildiflac

namespace Go.Proofs.Ytkfggilildiflac
open Go.ChangeShapes Go.WideShapes Go.ChangeAt Go.RowKit
set_option maxRecDepth 100000
theorem i64_of {n : Int} (h : (Lit.int .i64 n).wf = true) : i64R n := wf_i64 h
theorem open_regI {H : Type} {enc : TypeId × Value → H} {w : World} {base fuel : Nat} {sp : Nat → Bool} {held : Bool} {cs : List Value} {x : DataW H × List MemPlace}
    (hf : DataW.trod enc Try.prog w base sp held fuel 39 cs = some x) (hsz : cs.length = 2) : ∃ a : {y : Rg // i64R y.1 ∧ i64R y.2}, cs = cellsG a.1 := by
  obtain ⟨xs, n, rfl, hx, hl, hxl, hi⟩ := DataW.trod_struct Try.underlying39 hf
  have hxl5 : xs.length = 2 := hxl
  have g (i : Nat) (h : i < 2) : xs[i]? = some xs[i] := List.getElem?_eq_getElem (by omega)
  have h0 := (hi 0 _ rfl).trans (g 0 (by omega))
  have h1 := (hi 1 _ rfl).trans (g 1 (by omega))
  obtain ⟨x0, e0, w0⟩ := trod_int1 Try.underlying3 h0
  obtain ⟨x1, e1, w1⟩ := trod_int1 Try.underlying3 h1
  exact ⟨⟨(x0, x1), i64_of w0, i64_of w1⟩, two_parts hsz e0 e1⟩
theorem open_resvI {H : Type} {enc : TypeId × Value → H} {w W : World} {r : Reach} {b0 base : Nat} {sp : Nat → Bool} {held : Bool} {v : Value} {d : DataW H} {p : List MemPlace}
    (hv : Value.okWide Try.prog W r b0 24 v) (ht : DataW.Trod enc Try.prog w base sp held 24 v d p) :
    ∃ (rv : Value) (l : List Rg) (h t g : Int) (s : Bool), i64R h ∧ i64R g ∧ (∀ y ∈ l, i64R y.1 ∧ i64R y.2) ∧ RegsAt w rv l ∧ v = .agg #[rv, .int .i64 h, .int .i64 t, .bool s, .int .i64 g] := by
  have hu := Try.underlying24
  obtain ⟨cs, rfl, hsz⟩ := okWide_struct hu hv
  rw [cells_resv] at hsz
  obtain ⟨fuel, hf⟩ := ht
  obtain ⟨xs, n, rfl, hx, hl, hxl, hi⟩ := DataW.trod_struct hu hf
  have hxl5 : xs.length = 5 := hxl
  have g (i : Nat) (h : i < 5) : xs[i]? = some xs[i] := List.getElem?_eq_getElem (by omega)
  have h0 := (hi 0 _ rfl).trans (g 0 (by omega))
  have h1 := (hi 1 _ rfl).trans (g 1 (by omega))
  have h2 := (hi 2 _ rfl).trans (g 2 (by omega))
  have h3 := (hi 3 _ rfl).trans (g 3 (by omega))
  have h4 := (hi 4 _ rfl).trans (g 4 (by omega))
  obtain ⟨rv, l, e0, ⟨p0, c0, q1, q2, q3, q4⟩, m0⟩ := trod_gen (⟨(0, 0), by unfold i64R; decide⟩ : {y : Rg // i64R y.1 ∧ i64R y.2}) (fun a => cellsG a.1) Try.underlying22 cells_reg (by omega) (fun _ => rfl) (fun _ _ _ hf hl => open_regI hf hl) h0
  obtain ⟨y1, e1, w1⟩ := trod_int1 Try.underlying3 h1
  obtain ⟨y2, e2, _⟩ := trod_int1 Try.underlying3 h2
  obtain ⟨y3, e3⟩ := trod_bool1 Try.underlying4 h3
  obtain ⟨y4, e4, w4⟩ := trod_int1 Try.underlying3 h4
  refine ⟨rv, l.map (·.1), y1, y2, y4, y3, i64_of w1, i64_of w4, ?_, ?_, ?_⟩
  · intro y hy
    obtain ⟨a, _, rfl⟩ := List.mem_map.1 hy
    exact a.2
  · refine ⟨p0, c0, by rw [List.length_map]; exact q1, by rw [List.length_map]; exact q2, q3, fun hne => ?_⟩
    obtain ⟨b, o, cs, t, fr, z1, z2, z3⟩ := q4 (fun e => hne (by rw [e]; rfl))
    refine ⟨b, o, cs, t, fr, z1, z2, fun i x hx => z3 i x ?_⟩
    rw [show l.flatMap (fun a => cellsG a.1) = rgs (l.map (·.1)) by unfold rgs cellsG; rw [List.flatMap_map]]
    exact hx
  · have hL := fiveR_parts (L := cs.toList) (by simpa using hsz) e0 e1 e2 e3 e4
    rw [← Array.toArray_toList (xs := cs), hL]
end Go.Proofs.Ytkfggilildiflac
