/-
  Laws that the claims of this seat use, of several texts in one: ResvIn, ResvDo4. No condition of their own.
-/
import Derived.Test.YtkfggilildiflacJK0

namespace Go.Proofs.Ytkfggilildiflac
open Go.ChangeShapes Go.WideShapes Go.ChangeAt Go.RowKit
attribute [local irreducible] wpList wpListIn Oper.quietAt wpM
theorem ints_app (l m : List Int) : ints (l ++ m) = ints l ++ ints m := by unfold ints; rw [List.map_append]
theorem ints_len (l : List Int) : (ints l).length = l.length * 1 := by unfold ints; simp
theorem ints_one (l : List Int) : ∀ v ∈ ints l, v.oneCell' = true := by
  unfold ints
  intro v hv
  obtain ⟨x, _, rfl⟩ := List.mem_map.1 hv
  rfl
theorem intsAt_nil (w : World) : IntsAt w (.slice none 0 0) [] := ⟨none, 0, rfl, Nat.le_refl _, fun _ => rfl, fun h => absurd rfl h⟩
theorem intsAt_blk {w : World} {b c : Nat} {l : List Int} {sp : List Value} {t : TypeId} {fr : Nat × Nat} {n : Nat} (hb : blk w b = some (.cells (ints l ++ sp).toArray t fr)) (hn : n = l.length) (hc : n ≤ c) : IntsAt w (.slice (some ⟨b, 0, none⟩) n c) l := by
  subst hn
  refine ⟨_, c, rfl, hc, (fun h => by cases h), fun _ => ⟨b, 0, _, t, fr, rfl, hb, fun i x hi => ?_⟩⟩
  rw [Nat.zero_add]
  show (ints l ++ sp)[i]? = some x
  rw [List.getElem?_append_left (List.getElem?_eq_some_iff.1 hi).1]; exact hi
def IntL (l : List Int) (sv : Value) (Lr : List Blk) : Prop := (sv = .slice none 0 0 ∧ l = [] ∧ Lr = []) ∨
  ∃ g c sp, sv = .slice (some ⟨g, 0, none⟩) l.length c ∧ l.length ≤ c ∧ c ≤ maxLen ∧ sp.length = (c - l.length) * 1 ∧ Lr = [(g, (ints l ++ sp).toArray, 3)]
theorem IntL.slice {l : List Int} {sv : Value} {Lr : List Blk} (h : IntL l sv Lr) : ∃ p c, sv = .slice p l.length c := by
  rcases h with ⟨rfl, rfl, _⟩ | ⟨g, c, sp, rfl, _⟩
  · exact ⟨_, _, rfl⟩
  · exact ⟨_, _, rfl⟩
theorem IntL.inn {l : List Int} {sv : Value} {Lr L : List Blk} {W0 w : World} (h : IntL l sv Lr) (hS : St W0 w L) (hm : ∀ x ∈ Lr, x ∈ L) : IntsAt w sv l := by
  rcases h with ⟨rfl, rfl, rfl⟩ | ⟨g, c, sp, rfl, h1, h2, h3, rfl⟩
  · exact intsAt_nil w
  · exact intsAt_blk (hS.2.1 _ (hm _ (List.mem_cons_self ..))).2 rfl h1
theorem s_appI {ops : Array Oper} {Q : Exit → Act → World → Prop} {o : Oper} {rest : List Oper} {a : Act} {w W0 : World} {l : List Int} {sv : Value} {Lr L : List Blk} {who : Int} {nb : Nat} {x y : Operand}
    (hS : St W0 w ((nb, #[.int .i64 who], 3) :: (Lr ++ L))) (hR : IntL l sv Lr) (hm : l.length ≤ 1000)
    (hw : Region.wanted o (yielded ops a.tmps) = true) (hop : o.op = .call { callee := .builtin .append, args := #[x, y], argTypes := #[67, 67] }) (hx : evO a x = some sv) (hy : evO a y = some (.slice (some ⟨nb, 0, none⟩) 1 1))
    (hk : ∀ sv' Lr' w', IntL (l ++ [who]) sv' Lr' → St W0 w' (Lr' ++ L) → wpList Try.prog ops Q rest (a.put o.dst sv') w') : wpList Try.prog ops Q (o :: rest) a w := by
  have hsrc : ∀ (w : World), blk w nb = some (.cells #[.int .i64 who] 3 (0, 0)) → ∀ j v, (ints [who])[j]? = some v → w.cell? ((⟨nb, 0, none⟩ : Addr).add j) = some v := fun w hb => src_blk hb (fun j v h => by rw [Nat.zero_add]; exact h)
  rcases hR with ⟨rfl, rfl, rfl⟩ | ⟨g, c, sp, rfl, h1, h2, h3, rfl⟩
  · simp only [List.nil_append] at hS
    refine s_append0 Aa Ab hS hw hop hx hy (by infer_instance) (xs := ints [who]) (hsrc _ (hS.blk 0 rfl)) (by rfl) (by unfold maxLen; omega) ?_
    intro by2 cy2 S2 w' hq1 hq2 hq3 hS2
    exact hk _ _ _ (.inr ⟨by2, cy2, S2, rfl, hq1, hq2, hq3, rfl⟩) (hS2.erase 1)
  · simp only [List.cons_append, List.nil_append] at hS
    refine s_append Aa Ab hS hw hop hx hy (by infer_instance) (by exact at_ 1 rfl) (olds := ints l) (spare := sp) (by rfl) (ints_len l) h1 h3 (xs := ints [who]) (hsrc _ (hS.blk 0 rfl)) (by rfl) (ints_one _) (by unfold maxLen at h2 ⊢; omega) rfl ?_
    intro by2 cy2 S2 w' hq1 hq2 hq3 hS2
    have e : l.length + 1 = (l ++ [who]).length := by rw [List.length_append]; rfl
    refine hk _ [_] _ (.inr ⟨by2, cy2, S2, by rw [e], by rw [← e]; exact hq1, hq2, by rw [← e]; exact hq3, rfl⟩) ?_
    rw [ints_app]
    exact hS2.erase 1
/-! ### Whose keys fall -/
theorem gone_step {l : List Rg} {q : Rg → Bool} {k : Nat} (hk : k < l.length) {y : Rg} (hy : l.getD k (0, 0) = y) : ((l.take (k + 1)).filter q).map (·.1) = if q y then ((l.take k).filter q).map (·.1) ++ [y.1] else ((l.take k).filter q).map (·.1) := by
  rw [filt_step hk hy]
  split
  · rw [List.map_append]; rfl
  · rfl
theorem key_inj : ∀ {l : List Rg}, okL l → ∀ x ∈ l, ∀ y ∈ l, x.1 = y.1 → x = y
  | [], _, x, hx, _, _, _ => by cases hx
  | z :: l, hl, x, hx, y, hy, he => by
    have h1 := okL_lt hl
    rcases List.mem_cons.1 hx with e1 | h2
    · rcases List.mem_cons.1 hy with e2 | h3
      · rw [e1, e2]
      · have := h1 y h3; rw [e1] at he; omega
    · rcases List.mem_cons.1 hy with e2 | h3
      · have := h1 x h2; rw [e2] at he; omega
      · exact key_inj (okL_tail hl) x h2 y h3 he
theorem gone_any {l : List Rg} (hl : okL l) (q : Rg → Bool) {y : Rg} (hy : y ∈ l) : ((l.filter q).map (·.1)).any (· == y.1) = q y := by
  rw [Bool.eq_iff_iff, List.any_eq_true]
  constructor
  · rintro ⟨x, hx, he⟩
    obtain ⟨z, hz, rfl⟩ := List.mem_map.1 hx
    obtain ⟨h1, h2⟩ := List.mem_filter.1 hz
    have := key_inj hl z h1 y hy (by simpa using he)
    rw [← this]; exact h2
  · intro h
    exact ⟨y.1, List.mem_map.2 ⟨y, List.mem_filter.2 ⟨hy, h⟩, rfl⟩, by simp⟩
theorem endR_congr {r : Rv} {p q : Rg → Bool} (h : ∀ y ∈ r.regs, p y = q y) : endR r p = endR r q := by
  have e : (r.regs.filter fun g => !p g) = r.regs.filter fun g => !q g := List.filter_congr fun y hy => by rw [h y hy]
  unfold endR
  dsimp only
  rw [e]
theorem gone_none {l : List Rg} {q : Rg → Bool} : ((l.filter q).map (·.1)).length = 0 ↔ ¬ l.any q = true := by
  rw [List.length_map, List.length_eq_zero_iff, List.filter_eq_nil_iff, List.any_eq_true]
  constructor
  · rintro h ⟨x, hx, hq⟩; exact h x hx hq
  · intro h x hx hq; exact h ⟨x, hx, hq⟩
end Go.Proofs.Ytkfggilildiflac

namespace Go.Proofs.Ytkfggilildiflac
open Go.ChangeShapes Go.WideShapes Go.ChangeAt Go.RowKit
attribute [local irreducible] wpList wpListIn Oper.quietAt wpM
theorem one_any (who : Int) : (fun y : Rg => [who].any (· == y.1)) = fun y => y.1 == who := by
  funext y
  simp only [List.any_cons, List.any_nil, Bool.or_false]
  rw [Bool.eq_iff_iff]
  simp only [beq_iff_eq]
  exact ⟨Eq.symm, Eq.symm⟩
set_option maxRecDepth 100000 in
set_option maxHeartbeats 16000000 in
theorem doRef_1a (l : List Rg) (hl : okL l) (v : Value) (h t g : Int) (s : Bool) (who key new typ : Int) (st : Bool) (w0 : World) (hv : RegsAt w0 v l) (hm : l.length ≤ 100) (hG : decide (goodR ⟨l, h, t, s, g⟩) = true) (h2 : 0 ≤ who) (h3 : 0 ≤ key) (h4 : 0 ≤ new) (K : Int) (hK : keyOf l who = K) (hk : K = key) (hn : new = 0) : DoRef l v h t g s 1 who key new typ st w0 { endR ⟨l, h, t, s, g⟩ (fun y => y.1 == who) with stays := st, gen := wrap64 (g + 1) } 0 := by
  unfold DoRef
  obtain ⟨p1, c1, rfl, _⟩ := hv.slice
  have hS := St.start w0
  obtain ⟨x1, hx1⟩ : ∃ x, endR ⟨l, h, t, s, g⟩ (fun y => y.1 == who) = x := ⟨_, rfl⟩
  have hx2 := hx1
  rw [← one_any] at hx2
  rw [hx1]
  go_enter Try.func11, Try.ntmps11
  repeat' (first | ((with_reducible refine Ad ?_); first | ((first | refine Bn Aa ?_ | refine Bm Aa ?_ | refine Az Aa ?_ | refine Bf Aa Ab hS ?_ | refine Bi Aa Ab hS ?_ | refine Ag Aa ?_ | refine Af Aa ?_ | refine Bs Aa ?_ | refine Bx Aa ?_ | refine Ao Aa ?_ | refine Bw Aa ?_ | refine Br Aa ?_ | refine Be Aa ?_ | refine Bg Aa ?_ | refine Bv Aa (fun hc => ?_) (fun hc => ?_) | refine Ay Aa ?_ | refine Am Aa ?_ | refine Aw Aa ?_ | refine Ap Aa ?_ | refine Ah Aa ?_ | refine Ax Aa ?_ | refine Ar Aa ?_ | refine Aj Aa ?_ | refine Ae Aa ?_ | refine Ai Aa ?_ | refine Bp Aa ?_ | refine Bo Aa ?_ | refine Bu Aa ?_ | refine Bc Aa ?_ | refine As Aa ?_ | refine Ak Aa ?_ | refine Aq Aa ?_ | refine Bj Aa ?_ | refine Bk Aa ?_) <;> refine Ac ?_) | ((first | refine Bh Aa Ab hS ?_ | refine Bt Aa Ab hS ?_ | refine Ba Aa Ab hS ?_ | refine Bd Aa Ab hS ?_); clear hS; intro b w hS; refine Ac ?_) | ((first | refine Av Aa Ab hS ?_ | refine Au Aa Ab hS ?_ | refine Bb Aa Ab hS ?_); clear hS; intro w hS; refine Ac ?_) | (refine Cb Aa Ab hS (goodRef_d hG _ _ (hv.below hS.below) (by omega)) ?_; clear hS; intro w hS; refine Ac ?_) | (refine Cb Aa Ab hS (key_c hK _ _ _ _ _ _ (hv.below hS.below) (by omega)) ?_; clear hS; intro w hS; refine Ac ?_)) | ((fail_if_success (with_reducible refine Ad ?_)); first | go_step | go_step3 | rw [Exit.noGoto_normal] | rw [Exit.noGoto_ret] | rw [Exit.noGoto_exit]))
  refine s_call Aa (by rfl) (by rfl) (by rfl) (by rfl) (by rfl) (by infer_instance) (withoutRef_any l h t g s _ [who] _ _ (hv.below hS.below) (intsAt_blk (l := [who]) (sp := []) (hS.blk 0 rfl) rfl (Nat.le_refl _)) (by omega) (by simp) x1 hx2) ?_
  rintro e w1 ⟨sv, rfl, ho, hB⟩
  obtain ⟨p2, c2, rfl⟩ := ho.slice
  refine ⟨_, rfl, ?_⟩
  refine Ac ?_
  obtain ⟨Lr, hR, hS2⟩ := ho.join hS hB
  simp only [List.cons_append, List.nil_append] at hS2
  replace hS := hS2
  clear hS2 ho hB
  repeat' (first | ((with_reducible refine Ad ?_); first | ((first | refine Bn Aa ?_ | refine Bm Aa ?_ | refine Az Aa ?_ | refine Bf Aa Ab hS ?_ | refine Bi Aa Ab hS ?_ | refine Ag Aa ?_ | refine Af Aa ?_ | refine Bs Aa ?_ | refine Bx Aa ?_ | refine Ao Aa ?_ | refine Bw Aa ?_ | refine Br Aa ?_ | refine Be Aa ?_ | refine Bg Aa ?_ | refine Bv Aa (fun hc => ?_) (fun hc => ?_) | refine Ay Aa ?_ | refine Am Aa ?_ | refine Aw Aa ?_ | refine Ap Aa ?_ | refine Ah Aa ?_ | refine Ax Aa ?_ | refine Ar Aa ?_ | refine Aj Aa ?_ | refine Ae Aa ?_ | refine Ai Aa ?_ | refine Bp Aa ?_ | refine Bo Aa ?_ | refine Bu Aa ?_ | refine Bc Aa ?_ | refine As Aa ?_ | refine Ak Aa ?_ | refine Aq Aa ?_ | refine Bj Aa ?_ | refine Bk Aa ?_) <;> refine Ac ?_) | ((first | refine Bh Aa Ab hS ?_ | refine Bt Aa Ab hS ?_ | refine Ba Aa Ab hS ?_ | refine Bd Aa Ab hS ?_); clear hS; intro b w hS; refine Ac ?_) | ((first | refine Av Aa Ab hS ?_ | refine Au Aa Ab hS ?_ | refine Bb Aa Ab hS ?_); clear hS; intro w hS; refine Ac ?_) | (refine Stp.go Aa (by rfl) (by rfl) (r_addW (by rfl) (by rfl) (by rfl) rfl) ?_; refine Ac ?_)) | ((fail_if_success (with_reducible refine Ad ?_)); first | go_step | go_step3 | rw [Exit.noGoto_normal] | rw [Exit.noGoto_ret] | rw [Exit.noGoto_exit]))
  exact De (n := 5) Try.results11 (by kernel_rfl) (.inl rfl) _ _ _ _ rfl rfl (by first | exact hS.blk 0 rfl | exact hS.blk 1 rfl | exact hS.blk 2 rfl | exact hS.blk 3 rfl | exact hS.blk 4 rfl) (by rfl) ⟨_, rfl, hR.inn hS (by intro x hx; simp [hx]), hS.below⟩
set_option maxRecDepth 100000 in
set_option maxHeartbeats 16000000 in
theorem doRef_1b (l : List Rg) (hl : okL l) (v : Value) (h t g : Int) (s : Bool) (who key new typ : Int) (st : Bool) (w0 : World) (hv : RegsAt w0 v l) (hm : l.length ≤ 100) (hG : decide (goodR ⟨l, h, t, s, g⟩) = true) (h2 : 0 ≤ who) (h3 : 0 ≤ key) (h4 : 0 ≤ new) (K : Int) (hK : keyOf l who = K) (hk : K = key) (hn : 0 < new) (hF : decide ((insR l who new).length ≤ 4) = true) : DoRef l v h t g s 1 who key new typ st w0 ⟨insR l who new, h, t, st, wrap64 (g + 1)⟩ 0 := by
  unfold DoRef
  obtain ⟨p1, c1, rfl, _⟩ := hv.slice
  have hS := St.start w0
  obtain ⟨x1, hx1⟩ : ∃ x, endR ⟨l, h, t, s, g⟩ (fun y => y.1 == who) = x := ⟨_, rfl⟩
  have hx2 := hx1
  rw [← one_any] at hx2

  go_enter Try.func11, Try.ntmps11
  repeat' (first | ((with_reducible refine Ad ?_); first | ((first | refine Bn Aa ?_ | refine Bm Aa ?_ | refine Az Aa ?_ | refine Bf Aa Ab hS ?_ | refine Bi Aa Ab hS ?_ | refine Ag Aa ?_ | refine Af Aa ?_ | refine Bs Aa ?_ | refine Bx Aa ?_ | refine Ao Aa ?_ | refine Bw Aa ?_ | refine Br Aa ?_ | refine Be Aa ?_ | refine Bg Aa ?_ | refine Bv Aa (fun hc => ?_) (fun hc => ?_) | refine Ay Aa ?_ | refine Am Aa ?_ | refine Aw Aa ?_ | refine Ap Aa ?_ | refine Ah Aa ?_ | refine Ax Aa ?_ | refine Ar Aa ?_ | refine Aj Aa ?_ | refine Ae Aa ?_ | refine Ai Aa ?_ | refine Bp Aa ?_ | refine Bo Aa ?_ | refine Bu Aa ?_ | refine Bc Aa ?_ | refine As Aa ?_ | refine Ak Aa ?_ | refine Aq Aa ?_ | refine Bj Aa ?_ | refine Bk Aa ?_) <;> refine Ac ?_) | ((first | refine Bh Aa Ab hS ?_ | refine Bt Aa Ab hS ?_ | refine Ba Aa Ab hS ?_ | refine Bd Aa Ab hS ?_); clear hS; intro b w hS; refine Ac ?_) | ((first | refine Av Aa Ab hS ?_ | refine Au Aa Ab hS ?_ | refine Bb Aa Ab hS ?_); clear hS; intro w hS; refine Ac ?_) | (refine Cb Aa Ab hS (goodRef_d hG _ _ (hv.below hS.below) (by omega)) ?_; clear hS; intro w hS; refine Ac ?_) | (refine Cb Aa Ab hS (key_c hK _ _ _ _ _ _ (hv.below hS.below) (by omega)) ?_; clear hS; intro w hS; refine Ac ?_)) | ((fail_if_success (with_reducible refine Ad ?_)); first | go_step | go_step3 | rw [Exit.noGoto_normal] | rw [Exit.noGoto_ret] | rw [Exit.noGoto_exit]))
  refine s_call Aa (by rfl) (by rfl) (by rfl) (by rfl) (by rfl) (by infer_instance) (withoutRef_any l h t g s _ [who] _ _ (hv.below hS.below) (intsAt_blk (l := [who]) (sp := []) (hS.blk 0 rfl) rfl (Nat.le_refl _)) (by omega) (by simp) x1 hx2) ?_
  rintro e w1 ⟨sv, rfl, ho, hB⟩
  obtain ⟨p2, c2, rfl⟩ := ho.slice
  refine ⟨_, rfl, ?_⟩
  refine Ac ?_
  obtain ⟨Lr, hR, hS2⟩ := ho.join hS hB
  simp only [List.cons_append, List.nil_append] at hS2
  replace hS := hS2
  clear hS2 ho hB
  repeat' (first | ((with_reducible refine Ad ?_); first | ((first | refine Bn Aa ?_ | refine Bm Aa ?_ | refine Az Aa ?_ | refine Bf Aa Ab hS ?_ | refine Bi Aa Ab hS ?_ | refine Ag Aa ?_ | refine Af Aa ?_ | refine Bs Aa ?_ | refine Bx Aa ?_ | refine Ao Aa ?_ | refine Bw Aa ?_ | refine Br Aa ?_ | refine Be Aa ?_ | refine Bg Aa ?_ | refine Bv Aa (fun hc => ?_) (fun hc => ?_) | refine Ay Aa ?_ | refine Am Aa ?_ | refine Aw Aa ?_ | refine Ap Aa ?_ | refine Ah Aa ?_ | refine Ax Aa ?_ | refine Ar Aa ?_ | refine Aj Aa ?_ | refine Ae Aa ?_ | refine Ai Aa ?_ | refine Bp Aa ?_ | refine Bo Aa ?_ | refine Bu Aa ?_ | refine Bc Aa ?_ | refine As Aa ?_ | refine Ak Aa ?_ | refine Aq Aa ?_ | refine Bj Aa ?_ | refine Bk Aa ?_) <;> refine Ac ?_) | ((first | refine Bh Aa Ab hS ?_ | refine Bt Aa Ab hS ?_ | refine Ba Aa Ab hS ?_ | refine Bd Aa Ab hS ?_); clear hS; intro b w hS; refine Ac ?_) | ((first | refine Av Aa Ab hS ?_ | refine Au Aa Ab hS ?_ | refine Bb Aa Ab hS ?_); clear hS; intro w hS; refine Ac ?_)) | ((fail_if_success (with_reducible refine Ad ?_)); first | go_step | go_step3 | rw [Exit.noGoto_normal] | rw [Exit.noGoto_ret] | rw [Exit.noGoto_exit]))
  refine s_call Aa (by rfl) (by rfl) (by rfl) (by rfl) (by rfl) (by infer_instance) (withRef_any l hl h t g who new s _ _ (hv.below hS.below) (by omega) _ rfl true hF) ?_
  rintro e w2 ⟨sv2, rfl, ho, hB⟩
  obtain ⟨p3, c3, rfl⟩ := ho.slice
  refine ⟨_, rfl, ?_⟩
  refine Ac ?_
  obtain ⟨Lr2, hR2, hS2⟩ := ho.join hS hB
  simp only [List.cons_append, List.nil_append] at hS2
  replace hS := hS2
  clear hS2 ho hB
  repeat' (first | ((with_reducible refine Ad ?_); first | ((first | refine Bn Aa ?_ | refine Bm Aa ?_ | refine Az Aa ?_ | refine Bf Aa Ab hS ?_ | refine Bi Aa Ab hS ?_ | refine Ag Aa ?_ | refine Af Aa ?_ | refine Bs Aa ?_ | refine Bx Aa ?_ | refine Ao Aa ?_ | refine Bw Aa ?_ | refine Br Aa ?_ | refine Be Aa ?_ | refine Bg Aa ?_ | refine Bv Aa (fun hc => ?_) (fun hc => ?_) | refine Ay Aa ?_ | refine Am Aa ?_ | refine Aw Aa ?_ | refine Ap Aa ?_ | refine Ah Aa ?_ | refine Ax Aa ?_ | refine Ar Aa ?_ | refine Aj Aa ?_ | refine Ae Aa ?_ | refine Ai Aa ?_ | refine Bp Aa ?_ | refine Bo Aa ?_ | refine Bu Aa ?_ | refine Bc Aa ?_ | refine As Aa ?_ | refine Ak Aa ?_ | refine Aq Aa ?_ | refine Bj Aa ?_ | refine Bk Aa ?_) <;> refine Ac ?_) | ((first | refine Bh Aa Ab hS ?_ | refine Bt Aa Ab hS ?_ | refine Ba Aa Ab hS ?_ | refine Bd Aa Ab hS ?_); clear hS; intro b w hS; refine Ac ?_) | ((first | refine Av Aa Ab hS ?_ | refine Au Aa Ab hS ?_ | refine Bb Aa Ab hS ?_); clear hS; intro w hS; refine Ac ?_) | (refine Stp.go Aa (by rfl) (by rfl) (r_addW (by rfl) (by rfl) (by rfl) rfl) ?_; refine Ac ?_)) | ((fail_if_success (with_reducible refine Ad ?_)); first | go_step | go_step3 | rw [Exit.noGoto_normal] | rw [Exit.noGoto_ret] | rw [Exit.noGoto_exit]))
  exact De (n := 5) Try.results11 (by kernel_rfl) (.inl rfl) _ _ _ _ rfl rfl (by first | exact hS.blk 0 rfl | exact hS.blk 1 rfl | exact hS.blk 2 rfl | exact hS.blk 3 rfl | exact hS.blk 4 rfl) (by rfl) ⟨_, rfl, hR2.inn hS (by intro x hx; simp [hx]), hS.below⟩
set_option maxRecDepth 100000 in
set_option maxHeartbeats 16000000 in
theorem doRef_1c (l : List Rg) (hl : okL l) (v : Value) (h t g : Int) (s : Bool) (who key new typ : Int) (st : Bool) (w0 : World) (hv : RegsAt w0 v l) (hm : l.length ≤ 100) (hG : decide (goodR ⟨l, h, t, s, g⟩) = true) (h2 : 0 ≤ who) (h3 : 0 ≤ key) (h4 : 0 ≤ new) (K : Int) (hK : keyOf l who = K) (hk : K = key) (hn : 0 < new) (hF : decide ((insR l who new).length ≤ 4) = false) : DoRef l v h t g s 1 who key new typ st w0 nobody 7 := by
  unfold DoRef
  obtain ⟨p1, c1, rfl, _⟩ := hv.slice
  have hS := St.start w0
  obtain ⟨x1, hx1⟩ : ∃ x, endR ⟨l, h, t, s, g⟩ (fun y => y.1 == who) = x := ⟨_, rfl⟩
  have hx2 := hx1
  rw [← one_any] at hx2

  go_enter Try.func11, Try.ntmps11
  repeat' (first | ((with_reducible refine Ad ?_); first | ((first | refine Bn Aa ?_ | refine Bm Aa ?_ | refine Az Aa ?_ | refine Bf Aa Ab hS ?_ | refine Bi Aa Ab hS ?_ | refine Ag Aa ?_ | refine Af Aa ?_ | refine Bs Aa ?_ | refine Bx Aa ?_ | refine Ao Aa ?_ | refine Bw Aa ?_ | refine Br Aa ?_ | refine Be Aa ?_ | refine Bg Aa ?_ | refine Bv Aa (fun hc => ?_) (fun hc => ?_) | refine Ay Aa ?_ | refine Am Aa ?_ | refine Aw Aa ?_ | refine Ap Aa ?_ | refine Ah Aa ?_ | refine Ax Aa ?_ | refine Ar Aa ?_ | refine Aj Aa ?_ | refine Ae Aa ?_ | refine Ai Aa ?_ | refine Bp Aa ?_ | refine Bo Aa ?_ | refine Bu Aa ?_ | refine Bc Aa ?_ | refine As Aa ?_ | refine Ak Aa ?_ | refine Aq Aa ?_ | refine Bj Aa ?_ | refine Bk Aa ?_) <;> refine Ac ?_) | ((first | refine Bh Aa Ab hS ?_ | refine Bt Aa Ab hS ?_ | refine Ba Aa Ab hS ?_ | refine Bd Aa Ab hS ?_); clear hS; intro b w hS; refine Ac ?_) | ((first | refine Av Aa Ab hS ?_ | refine Au Aa Ab hS ?_ | refine Bb Aa Ab hS ?_); clear hS; intro w hS; refine Ac ?_) | (refine Cb Aa Ab hS (goodRef_d hG _ _ (hv.below hS.below) (by omega)) ?_; clear hS; intro w hS; refine Ac ?_) | (refine Cb Aa Ab hS (key_c hK _ _ _ _ _ _ (hv.below hS.below) (by omega)) ?_; clear hS; intro w hS; refine Ac ?_)) | ((fail_if_success (with_reducible refine Ad ?_)); first | go_step | go_step3 | rw [Exit.noGoto_normal] | rw [Exit.noGoto_ret] | rw [Exit.noGoto_exit]))
  refine s_call Aa (by rfl) (by rfl) (by rfl) (by rfl) (by rfl) (by infer_instance) (withoutRef_any l h t g s _ [who] _ _ (hv.below hS.below) (intsAt_blk (l := [who]) (sp := []) (hS.blk 0 rfl) rfl (Nat.le_refl _)) (by omega) (by simp) x1 hx2) ?_
  rintro e w1 ⟨sv, rfl, ho, hB⟩
  obtain ⟨p2, c2, rfl⟩ := ho.slice
  refine ⟨_, rfl, ?_⟩
  refine Ac ?_
  obtain ⟨Lr, hR, hS2⟩ := ho.join hS hB
  simp only [List.cons_append, List.nil_append] at hS2
  replace hS := hS2
  clear hS2 ho hB
  repeat' (first | ((with_reducible refine Ad ?_); first | ((first | refine Bn Aa ?_ | refine Bm Aa ?_ | refine Az Aa ?_ | refine Bf Aa Ab hS ?_ | refine Bi Aa Ab hS ?_ | refine Ag Aa ?_ | refine Af Aa ?_ | refine Bs Aa ?_ | refine Bx Aa ?_ | refine Ao Aa ?_ | refine Bw Aa ?_ | refine Br Aa ?_ | refine Be Aa ?_ | refine Bg Aa ?_ | refine Bv Aa (fun hc => ?_) (fun hc => ?_) | refine Ay Aa ?_ | refine Am Aa ?_ | refine Aw Aa ?_ | refine Ap Aa ?_ | refine Ah Aa ?_ | refine Ax Aa ?_ | refine Ar Aa ?_ | refine Aj Aa ?_ | refine Ae Aa ?_ | refine Ai Aa ?_ | refine Bp Aa ?_ | refine Bo Aa ?_ | refine Bu Aa ?_ | refine Bc Aa ?_ | refine As Aa ?_ | refine Ak Aa ?_ | refine Aq Aa ?_ | refine Bj Aa ?_ | refine Bk Aa ?_) <;> refine Ac ?_) | ((first | refine Bh Aa Ab hS ?_ | refine Bt Aa Ab hS ?_ | refine Ba Aa Ab hS ?_ | refine Bd Aa Ab hS ?_); clear hS; intro b w hS; refine Ac ?_) | ((first | refine Av Aa Ab hS ?_ | refine Au Aa Ab hS ?_ | refine Bb Aa Ab hS ?_); clear hS; intro w hS; refine Ac ?_)) | ((fail_if_success (with_reducible refine Ad ?_)); first | go_step | go_step3 | rw [Exit.noGoto_normal] | rw [Exit.noGoto_ret] | rw [Exit.noGoto_exit]))
  refine s_call Aa (by rfl) (by rfl) (by rfl) (by rfl) (by rfl) (by infer_instance) (withRef_any l hl h t g who new s _ _ (hv.below hS.below) (by omega) _ rfl false hF) ?_
  rintro e w2 ⟨sv2, rfl, ho, hB⟩
  obtain ⟨p3, c3, rfl⟩ := ho.slice
  refine ⟨_, rfl, ?_⟩
  refine Ac ?_
  obtain ⟨Lr2, hR2, hS2⟩ := ho.join hS hB
  simp only [List.cons_append, List.nil_append] at hS2
  replace hS := hS2
  clear hS2 ho hB
  repeat' (first | ((with_reducible refine Ad ?_); first | ((first | refine Bn Aa ?_ | refine Bm Aa ?_ | refine Az Aa ?_ | refine Bf Aa Ab hS ?_ | refine Bi Aa Ab hS ?_ | refine Ag Aa ?_ | refine Af Aa ?_ | refine Bs Aa ?_ | refine Bx Aa ?_ | refine Ao Aa ?_ | refine Bw Aa ?_ | refine Br Aa ?_ | refine Be Aa ?_ | refine Bg Aa ?_ | refine Bv Aa (fun hc => ?_) (fun hc => ?_) | refine Ay Aa ?_ | refine Am Aa ?_ | refine Aw Aa ?_ | refine Ap Aa ?_ | refine Ah Aa ?_ | refine Ax Aa ?_ | refine Ar Aa ?_ | refine Aj Aa ?_ | refine Ae Aa ?_ | refine Ai Aa ?_ | refine Bp Aa ?_ | refine Bo Aa ?_ | refine Bu Aa ?_ | refine Bc Aa ?_ | refine As Aa ?_ | refine Ak Aa ?_ | refine Aq Aa ?_ | refine Bj Aa ?_ | refine Bk Aa ?_) <;> refine Ac ?_) | ((first | refine Bh Aa Ab hS ?_ | refine Bt Aa Ab hS ?_ | refine Ba Aa Ab hS ?_ | refine Bd Aa Ab hS ?_); clear hS; intro b w hS; refine Ac ?_) | ((first | refine Av Aa Ab hS ?_ | refine Au Aa Ab hS ?_ | refine Bb Aa Ab hS ?_); clear hS; intro w hS; refine Ac ?_) | (refine Cb Aa Ab hS (nobodyRef_any _) ?_; clear hS; intro w hS; refine Ac ?_)) | ((fail_if_success (with_reducible refine Ad ?_)); first | go_step | go_step3 | rw [Exit.noGoto_normal] | rw [Exit.noGoto_ret] | rw [Exit.noGoto_exit]))
  exact De (n := 5) Try.results11 (by kernel_rfl) (.inl rfl) _ _ _ _ rfl rfl (by first | exact hS.blk 0 rfl | exact hS.blk 1 rfl | exact hS.blk 2 rfl | exact hS.blk 3 rfl | exact hS.blk 4 rfl) (by rfl) ⟨_, rfl, regsAt_nil _, hS.below⟩
set_option maxRecDepth 100000 in
set_option maxHeartbeats 16000000 in
theorem doRef_6a (l : List Rg) (hl : okL l) (v : Value) (h t g : Int) (s : Bool) (who key new typ : Int) (st : Bool) (w0 : World) (hv : RegsAt w0 v l) (hm : l.length ≤ 100) (hG : decide (goodR ⟨l, h, t, s, g⟩) = true) (h2 : 0 ≤ who) (h3 : 0 ≤ key) (h4 : 0 ≤ new) (K : Int) (hK : keyOf l who = K) (hn : new = 0) : DoRef l v h t g s 6 who key new typ st w0 { endR ⟨l, h, t, s, g⟩ (fun y => y.1 == who) with stays := st, gen := wrap64 (g + 1) } 0 := by
  unfold DoRef
  obtain ⟨p1, c1, rfl, _⟩ := hv.slice
  have hS := St.start w0
  obtain ⟨x1, hx1⟩ : ∃ x, endR ⟨l, h, t, s, g⟩ (fun y => y.1 == who) = x := ⟨_, rfl⟩
  have hx2 := hx1
  rw [← one_any] at hx2
  rw [hx1]
  go_enter Try.func11, Try.ntmps11
  repeat' (first | ((with_reducible refine Ad ?_); first | ((first | refine Bn Aa ?_ | refine Bm Aa ?_ | refine Az Aa ?_ | refine Bf Aa Ab hS ?_ | refine Bi Aa Ab hS ?_ | refine Ag Aa ?_ | refine Af Aa ?_ | refine Bs Aa ?_ | refine Bx Aa ?_ | refine Ao Aa ?_ | refine Bw Aa ?_ | refine Br Aa ?_ | refine Be Aa ?_ | refine Bg Aa ?_ | refine Bv Aa (fun hc => ?_) (fun hc => ?_) | refine Ay Aa ?_ | refine Am Aa ?_ | refine Aw Aa ?_ | refine Ap Aa ?_ | refine Ah Aa ?_ | refine Ax Aa ?_ | refine Ar Aa ?_ | refine Aj Aa ?_ | refine Ae Aa ?_ | refine Ai Aa ?_ | refine Bp Aa ?_ | refine Bo Aa ?_ | refine Bu Aa ?_ | refine Bc Aa ?_ | refine As Aa ?_ | refine Ak Aa ?_ | refine Aq Aa ?_ | refine Bj Aa ?_ | refine Bk Aa ?_) <;> refine Ac ?_) | ((first | refine Bh Aa Ab hS ?_ | refine Bt Aa Ab hS ?_ | refine Ba Aa Ab hS ?_ | refine Bd Aa Ab hS ?_); clear hS; intro b w hS; refine Ac ?_) | ((first | refine Av Aa Ab hS ?_ | refine Au Aa Ab hS ?_ | refine Bb Aa Ab hS ?_); clear hS; intro w hS; refine Ac ?_) | (refine Cb Aa Ab hS (goodRef_d hG _ _ (hv.below hS.below) (by omega)) ?_; clear hS; intro w hS; refine Ac ?_) | (refine Cb Aa Ab hS (key_c hK _ _ _ _ _ _ (hv.below hS.below) (by omega)) ?_; clear hS; intro w hS; refine Ac ?_)) | ((fail_if_success (with_reducible refine Ad ?_)); first | go_step | go_step3 | rw [Exit.noGoto_normal] | rw [Exit.noGoto_ret] | rw [Exit.noGoto_exit]))
  refine s_call Aa (by rfl) (by rfl) (by rfl) (by rfl) (by rfl) (by infer_instance) (withoutRef_any l h t g s _ [who] _ _ (hv.below hS.below) (intsAt_blk (l := [who]) (sp := []) (hS.blk 0 rfl) rfl (Nat.le_refl _)) (by omega) (by simp) x1 hx2) ?_
  rintro e w1 ⟨sv, rfl, ho, hB⟩
  obtain ⟨p2, c2, rfl⟩ := ho.slice
  refine ⟨_, rfl, ?_⟩
  refine Ac ?_
  obtain ⟨Lr, hR, hS2⟩ := ho.join hS hB
  simp only [List.cons_append, List.nil_append] at hS2
  replace hS := hS2
  clear hS2 ho hB
  repeat' (first | ((with_reducible refine Ad ?_); first | ((first | refine Bn Aa ?_ | refine Bm Aa ?_ | refine Az Aa ?_ | refine Bf Aa Ab hS ?_ | refine Bi Aa Ab hS ?_ | refine Ag Aa ?_ | refine Af Aa ?_ | refine Bs Aa ?_ | refine Bx Aa ?_ | refine Ao Aa ?_ | refine Bw Aa ?_ | refine Br Aa ?_ | refine Be Aa ?_ | refine Bg Aa ?_ | refine Bv Aa (fun hc => ?_) (fun hc => ?_) | refine Ay Aa ?_ | refine Am Aa ?_ | refine Aw Aa ?_ | refine Ap Aa ?_ | refine Ah Aa ?_ | refine Ax Aa ?_ | refine Ar Aa ?_ | refine Aj Aa ?_ | refine Ae Aa ?_ | refine Ai Aa ?_ | refine Bp Aa ?_ | refine Bo Aa ?_ | refine Bu Aa ?_ | refine Bc Aa ?_ | refine As Aa ?_ | refine Ak Aa ?_ | refine Aq Aa ?_ | refine Bj Aa ?_ | refine Bk Aa ?_) <;> refine Ac ?_) | ((first | refine Bh Aa Ab hS ?_ | refine Bt Aa Ab hS ?_ | refine Ba Aa Ab hS ?_ | refine Bd Aa Ab hS ?_); clear hS; intro b w hS; refine Ac ?_) | ((first | refine Av Aa Ab hS ?_ | refine Au Aa Ab hS ?_ | refine Bb Aa Ab hS ?_); clear hS; intro w hS; refine Ac ?_) | (refine Stp.go Aa (by rfl) (by rfl) (r_addW (by rfl) (by rfl) (by rfl) rfl) ?_; refine Ac ?_)) | ((fail_if_success (with_reducible refine Ad ?_)); first | go_step | go_step3 | rw [Exit.noGoto_normal] | rw [Exit.noGoto_ret] | rw [Exit.noGoto_exit]))
  exact De (n := 5) Try.results11 (by kernel_rfl) (.inl rfl) _ _ _ _ rfl rfl (by first | exact hS.blk 0 rfl | exact hS.blk 1 rfl | exact hS.blk 2 rfl | exact hS.blk 3 rfl | exact hS.blk 4 rfl) (by rfl) ⟨_, rfl, hR.inn hS (by intro x hx; simp [hx]), hS.below⟩
set_option maxRecDepth 100000 in
set_option maxHeartbeats 16000000 in
theorem doRef_6b (l : List Rg) (hl : okL l) (v : Value) (h t g : Int) (s : Bool) (who key new typ : Int) (st : Bool) (w0 : World) (hv : RegsAt w0 v l) (hm : l.length ≤ 100) (hG : decide (goodR ⟨l, h, t, s, g⟩) = true) (h2 : 0 ≤ who) (h3 : 0 ≤ key) (h4 : 0 ≤ new) (K : Int) (hK : keyOf l who = K) (hn : 0 < new) (hF : decide ((insR l who new).length ≤ 4) = true) : DoRef l v h t g s 6 who key new typ st w0 ⟨insR l who new, h, t, st, wrap64 (g + 1)⟩ 0 := by
  unfold DoRef
  obtain ⟨p1, c1, rfl, _⟩ := hv.slice
  have hS := St.start w0
  obtain ⟨x1, hx1⟩ : ∃ x, endR ⟨l, h, t, s, g⟩ (fun y => y.1 == who) = x := ⟨_, rfl⟩
  have hx2 := hx1
  rw [← one_any] at hx2

  go_enter Try.func11, Try.ntmps11
  repeat' (first | ((with_reducible refine Ad ?_); first | ((first | refine Bn Aa ?_ | refine Bm Aa ?_ | refine Az Aa ?_ | refine Bf Aa Ab hS ?_ | refine Bi Aa Ab hS ?_ | refine Ag Aa ?_ | refine Af Aa ?_ | refine Bs Aa ?_ | refine Bx Aa ?_ | refine Ao Aa ?_ | refine Bw Aa ?_ | refine Br Aa ?_ | refine Be Aa ?_ | refine Bg Aa ?_ | refine Bv Aa (fun hc => ?_) (fun hc => ?_) | refine Ay Aa ?_ | refine Am Aa ?_ | refine Aw Aa ?_ | refine Ap Aa ?_ | refine Ah Aa ?_ | refine Ax Aa ?_ | refine Ar Aa ?_ | refine Aj Aa ?_ | refine Ae Aa ?_ | refine Ai Aa ?_ | refine Bp Aa ?_ | refine Bo Aa ?_ | refine Bu Aa ?_ | refine Bc Aa ?_ | refine As Aa ?_ | refine Ak Aa ?_ | refine Aq Aa ?_ | refine Bj Aa ?_ | refine Bk Aa ?_) <;> refine Ac ?_) | ((first | refine Bh Aa Ab hS ?_ | refine Bt Aa Ab hS ?_ | refine Ba Aa Ab hS ?_ | refine Bd Aa Ab hS ?_); clear hS; intro b w hS; refine Ac ?_) | ((first | refine Av Aa Ab hS ?_ | refine Au Aa Ab hS ?_ | refine Bb Aa Ab hS ?_); clear hS; intro w hS; refine Ac ?_) | (refine Cb Aa Ab hS (goodRef_d hG _ _ (hv.below hS.below) (by omega)) ?_; clear hS; intro w hS; refine Ac ?_) | (refine Cb Aa Ab hS (key_c hK _ _ _ _ _ _ (hv.below hS.below) (by omega)) ?_; clear hS; intro w hS; refine Ac ?_)) | ((fail_if_success (with_reducible refine Ad ?_)); first | go_step | go_step3 | rw [Exit.noGoto_normal] | rw [Exit.noGoto_ret] | rw [Exit.noGoto_exit]))
  refine s_call Aa (by rfl) (by rfl) (by rfl) (by rfl) (by rfl) (by infer_instance) (withoutRef_any l h t g s _ [who] _ _ (hv.below hS.below) (intsAt_blk (l := [who]) (sp := []) (hS.blk 0 rfl) rfl (Nat.le_refl _)) (by omega) (by simp) x1 hx2) ?_
  rintro e w1 ⟨sv, rfl, ho, hB⟩
  obtain ⟨p2, c2, rfl⟩ := ho.slice
  refine ⟨_, rfl, ?_⟩
  refine Ac ?_
  obtain ⟨Lr, hR, hS2⟩ := ho.join hS hB
  simp only [List.cons_append, List.nil_append] at hS2
  replace hS := hS2
  clear hS2 ho hB
  repeat' (first | ((with_reducible refine Ad ?_); first | ((first | refine Bn Aa ?_ | refine Bm Aa ?_ | refine Az Aa ?_ | refine Bf Aa Ab hS ?_ | refine Bi Aa Ab hS ?_ | refine Ag Aa ?_ | refine Af Aa ?_ | refine Bs Aa ?_ | refine Bx Aa ?_ | refine Ao Aa ?_ | refine Bw Aa ?_ | refine Br Aa ?_ | refine Be Aa ?_ | refine Bg Aa ?_ | refine Bv Aa (fun hc => ?_) (fun hc => ?_) | refine Ay Aa ?_ | refine Am Aa ?_ | refine Aw Aa ?_ | refine Ap Aa ?_ | refine Ah Aa ?_ | refine Ax Aa ?_ | refine Ar Aa ?_ | refine Aj Aa ?_ | refine Ae Aa ?_ | refine Ai Aa ?_ | refine Bp Aa ?_ | refine Bo Aa ?_ | refine Bu Aa ?_ | refine Bc Aa ?_ | refine As Aa ?_ | refine Ak Aa ?_ | refine Aq Aa ?_ | refine Bj Aa ?_ | refine Bk Aa ?_) <;> refine Ac ?_) | ((first | refine Bh Aa Ab hS ?_ | refine Bt Aa Ab hS ?_ | refine Ba Aa Ab hS ?_ | refine Bd Aa Ab hS ?_); clear hS; intro b w hS; refine Ac ?_) | ((first | refine Av Aa Ab hS ?_ | refine Au Aa Ab hS ?_ | refine Bb Aa Ab hS ?_); clear hS; intro w hS; refine Ac ?_)) | ((fail_if_success (with_reducible refine Ad ?_)); first | go_step | go_step3 | rw [Exit.noGoto_normal] | rw [Exit.noGoto_ret] | rw [Exit.noGoto_exit]))
  refine s_call Aa (by rfl) (by rfl) (by rfl) (by rfl) (by rfl) (by infer_instance) (withRef_any l hl h t g who new s _ _ (hv.below hS.below) (by omega) _ rfl true hF) ?_
  rintro e w2 ⟨sv2, rfl, ho, hB⟩
  obtain ⟨p3, c3, rfl⟩ := ho.slice
  refine ⟨_, rfl, ?_⟩
  refine Ac ?_
  obtain ⟨Lr2, hR2, hS2⟩ := ho.join hS hB
  simp only [List.cons_append, List.nil_append] at hS2
  replace hS := hS2
  clear hS2 ho hB
  repeat' (first | ((with_reducible refine Ad ?_); first | ((first | refine Bn Aa ?_ | refine Bm Aa ?_ | refine Az Aa ?_ | refine Bf Aa Ab hS ?_ | refine Bi Aa Ab hS ?_ | refine Ag Aa ?_ | refine Af Aa ?_ | refine Bs Aa ?_ | refine Bx Aa ?_ | refine Ao Aa ?_ | refine Bw Aa ?_ | refine Br Aa ?_ | refine Be Aa ?_ | refine Bg Aa ?_ | refine Bv Aa (fun hc => ?_) (fun hc => ?_) | refine Ay Aa ?_ | refine Am Aa ?_ | refine Aw Aa ?_ | refine Ap Aa ?_ | refine Ah Aa ?_ | refine Ax Aa ?_ | refine Ar Aa ?_ | refine Aj Aa ?_ | refine Ae Aa ?_ | refine Ai Aa ?_ | refine Bp Aa ?_ | refine Bo Aa ?_ | refine Bu Aa ?_ | refine Bc Aa ?_ | refine As Aa ?_ | refine Ak Aa ?_ | refine Aq Aa ?_ | refine Bj Aa ?_ | refine Bk Aa ?_) <;> refine Ac ?_) | ((first | refine Bh Aa Ab hS ?_ | refine Bt Aa Ab hS ?_ | refine Ba Aa Ab hS ?_ | refine Bd Aa Ab hS ?_); clear hS; intro b w hS; refine Ac ?_) | ((first | refine Av Aa Ab hS ?_ | refine Au Aa Ab hS ?_ | refine Bb Aa Ab hS ?_); clear hS; intro w hS; refine Ac ?_) | (refine Stp.go Aa (by rfl) (by rfl) (r_addW (by rfl) (by rfl) (by rfl) rfl) ?_; refine Ac ?_)) | ((fail_if_success (with_reducible refine Ad ?_)); first | go_step | go_step3 | rw [Exit.noGoto_normal] | rw [Exit.noGoto_ret] | rw [Exit.noGoto_exit]))
  exact De (n := 5) Try.results11 (by kernel_rfl) (.inl rfl) _ _ _ _ rfl rfl (by first | exact hS.blk 0 rfl | exact hS.blk 1 rfl | exact hS.blk 2 rfl | exact hS.blk 3 rfl | exact hS.blk 4 rfl) (by rfl) ⟨_, rfl, hR2.inn hS (by intro x hx; simp [hx]), hS.below⟩
set_option maxRecDepth 100000 in
set_option maxHeartbeats 16000000 in
theorem doRef_6c (l : List Rg) (hl : okL l) (v : Value) (h t g : Int) (s : Bool) (who key new typ : Int) (st : Bool) (w0 : World) (hv : RegsAt w0 v l) (hm : l.length ≤ 100) (hG : decide (goodR ⟨l, h, t, s, g⟩) = true) (h2 : 0 ≤ who) (h3 : 0 ≤ key) (h4 : 0 ≤ new) (K : Int) (hK : keyOf l who = K) (hn : 0 < new) (hF : decide ((insR l who new).length ≤ 4) = false) : DoRef l v h t g s 6 who key new typ st w0 nobody 7 := by
  unfold DoRef
  obtain ⟨p1, c1, rfl, _⟩ := hv.slice
  have hS := St.start w0
  obtain ⟨x1, hx1⟩ : ∃ x, endR ⟨l, h, t, s, g⟩ (fun y => y.1 == who) = x := ⟨_, rfl⟩
  have hx2 := hx1
  rw [← one_any] at hx2

  go_enter Try.func11, Try.ntmps11
  repeat' (first | ((with_reducible refine Ad ?_); first | ((first | refine Bn Aa ?_ | refine Bm Aa ?_ | refine Az Aa ?_ | refine Bf Aa Ab hS ?_ | refine Bi Aa Ab hS ?_ | refine Ag Aa ?_ | refine Af Aa ?_ | refine Bs Aa ?_ | refine Bx Aa ?_ | refine Ao Aa ?_ | refine Bw Aa ?_ | refine Br Aa ?_ | refine Be Aa ?_ | refine Bg Aa ?_ | refine Bv Aa (fun hc => ?_) (fun hc => ?_) | refine Ay Aa ?_ | refine Am Aa ?_ | refine Aw Aa ?_ | refine Ap Aa ?_ | refine Ah Aa ?_ | refine Ax Aa ?_ | refine Ar Aa ?_ | refine Aj Aa ?_ | refine Ae Aa ?_ | refine Ai Aa ?_ | refine Bp Aa ?_ | refine Bo Aa ?_ | refine Bu Aa ?_ | refine Bc Aa ?_ | refine As Aa ?_ | refine Ak Aa ?_ | refine Aq Aa ?_ | refine Bj Aa ?_ | refine Bk Aa ?_) <;> refine Ac ?_) | ((first | refine Bh Aa Ab hS ?_ | refine Bt Aa Ab hS ?_ | refine Ba Aa Ab hS ?_ | refine Bd Aa Ab hS ?_); clear hS; intro b w hS; refine Ac ?_) | ((first | refine Av Aa Ab hS ?_ | refine Au Aa Ab hS ?_ | refine Bb Aa Ab hS ?_); clear hS; intro w hS; refine Ac ?_) | (refine Cb Aa Ab hS (goodRef_d hG _ _ (hv.below hS.below) (by omega)) ?_; clear hS; intro w hS; refine Ac ?_) | (refine Cb Aa Ab hS (key_c hK _ _ _ _ _ _ (hv.below hS.below) (by omega)) ?_; clear hS; intro w hS; refine Ac ?_)) | ((fail_if_success (with_reducible refine Ad ?_)); first | go_step | go_step3 | rw [Exit.noGoto_normal] | rw [Exit.noGoto_ret] | rw [Exit.noGoto_exit]))
  refine s_call Aa (by rfl) (by rfl) (by rfl) (by rfl) (by rfl) (by infer_instance) (withoutRef_any l h t g s _ [who] _ _ (hv.below hS.below) (intsAt_blk (l := [who]) (sp := []) (hS.blk 0 rfl) rfl (Nat.le_refl _)) (by omega) (by simp) x1 hx2) ?_
  rintro e w1 ⟨sv, rfl, ho, hB⟩
  obtain ⟨p2, c2, rfl⟩ := ho.slice
  refine ⟨_, rfl, ?_⟩
  refine Ac ?_
  obtain ⟨Lr, hR, hS2⟩ := ho.join hS hB
  simp only [List.cons_append, List.nil_append] at hS2
  replace hS := hS2
  clear hS2 ho hB
  repeat' (first | ((with_reducible refine Ad ?_); first | ((first | refine Bn Aa ?_ | refine Bm Aa ?_ | refine Az Aa ?_ | refine Bf Aa Ab hS ?_ | refine Bi Aa Ab hS ?_ | refine Ag Aa ?_ | refine Af Aa ?_ | refine Bs Aa ?_ | refine Bx Aa ?_ | refine Ao Aa ?_ | refine Bw Aa ?_ | refine Br Aa ?_ | refine Be Aa ?_ | refine Bg Aa ?_ | refine Bv Aa (fun hc => ?_) (fun hc => ?_) | refine Ay Aa ?_ | refine Am Aa ?_ | refine Aw Aa ?_ | refine Ap Aa ?_ | refine Ah Aa ?_ | refine Ax Aa ?_ | refine Ar Aa ?_ | refine Aj Aa ?_ | refine Ae Aa ?_ | refine Ai Aa ?_ | refine Bp Aa ?_ | refine Bo Aa ?_ | refine Bu Aa ?_ | refine Bc Aa ?_ | refine As Aa ?_ | refine Ak Aa ?_ | refine Aq Aa ?_ | refine Bj Aa ?_ | refine Bk Aa ?_) <;> refine Ac ?_) | ((first | refine Bh Aa Ab hS ?_ | refine Bt Aa Ab hS ?_ | refine Ba Aa Ab hS ?_ | refine Bd Aa Ab hS ?_); clear hS; intro b w hS; refine Ac ?_) | ((first | refine Av Aa Ab hS ?_ | refine Au Aa Ab hS ?_ | refine Bb Aa Ab hS ?_); clear hS; intro w hS; refine Ac ?_)) | ((fail_if_success (with_reducible refine Ad ?_)); first | go_step | go_step3 | rw [Exit.noGoto_normal] | rw [Exit.noGoto_ret] | rw [Exit.noGoto_exit]))
  refine s_call Aa (by rfl) (by rfl) (by rfl) (by rfl) (by rfl) (by infer_instance) (withRef_any l hl h t g who new s _ _ (hv.below hS.below) (by omega) _ rfl false hF) ?_
  rintro e w2 ⟨sv2, rfl, ho, hB⟩
  obtain ⟨p3, c3, rfl⟩ := ho.slice
  refine ⟨_, rfl, ?_⟩
  refine Ac ?_
  obtain ⟨Lr2, hR2, hS2⟩ := ho.join hS hB
  simp only [List.cons_append, List.nil_append] at hS2
  replace hS := hS2
  clear hS2 ho hB
  repeat' (first | ((with_reducible refine Ad ?_); first | ((first | refine Bn Aa ?_ | refine Bm Aa ?_ | refine Az Aa ?_ | refine Bf Aa Ab hS ?_ | refine Bi Aa Ab hS ?_ | refine Ag Aa ?_ | refine Af Aa ?_ | refine Bs Aa ?_ | refine Bx Aa ?_ | refine Ao Aa ?_ | refine Bw Aa ?_ | refine Br Aa ?_ | refine Be Aa ?_ | refine Bg Aa ?_ | refine Bv Aa (fun hc => ?_) (fun hc => ?_) | refine Ay Aa ?_ | refine Am Aa ?_ | refine Aw Aa ?_ | refine Ap Aa ?_ | refine Ah Aa ?_ | refine Ax Aa ?_ | refine Ar Aa ?_ | refine Aj Aa ?_ | refine Ae Aa ?_ | refine Ai Aa ?_ | refine Bp Aa ?_ | refine Bo Aa ?_ | refine Bu Aa ?_ | refine Bc Aa ?_ | refine As Aa ?_ | refine Ak Aa ?_ | refine Aq Aa ?_ | refine Bj Aa ?_ | refine Bk Aa ?_) <;> refine Ac ?_) | ((first | refine Bh Aa Ab hS ?_ | refine Bt Aa Ab hS ?_ | refine Ba Aa Ab hS ?_ | refine Bd Aa Ab hS ?_); clear hS; intro b w hS; refine Ac ?_) | ((first | refine Av Aa Ab hS ?_ | refine Au Aa Ab hS ?_ | refine Bb Aa Ab hS ?_); clear hS; intro w hS; refine Ac ?_) | (refine Cb Aa Ab hS (nobodyRef_any _) ?_; clear hS; intro w hS; refine Ac ?_)) | ((fail_if_success (with_reducible refine Ad ?_)); first | go_step | go_step3 | rw [Exit.noGoto_normal] | rw [Exit.noGoto_ret] | rw [Exit.noGoto_exit]))
  exact De (n := 5) Try.results11 (by kernel_rfl) (.inl rfl) _ _ _ _ rfl rfl (by first | exact hS.blk 0 rfl | exact hS.blk 1 rfl | exact hS.blk 2 rfl | exact hS.blk 3 rfl | exact hS.blk 4 rfl) (by rfl) ⟨_, rfl, regsAt_nil _, hS.below⟩
theorem doRef_16 (l : List Rg) (v : Value) (h t g : Int) (s : Bool) (op who key new typ : Int) (st : Bool) (w0 : World) (hv : RegsAt w0 v l) (hm : l.length ≤ 100) (hG : decide (goodR ⟨l, h, t, s, g⟩) = true) (hO : soundR ⟨op, who, key, new, typ, st⟩) (hk : knowsR ⟨l, h, t, s, g⟩ ⟨op, who, key, new, typ, st⟩) (h16 : op = 1 ∨ op = 6) (x : Rv) (er : Int) (hx : actR ⟨l, h, t, s, g⟩ ⟨op, who, key, new, typ, st⟩ = (x, er)) : DoRef l v h t g s op who key new typ st w0 x er := by
  have hs : (1 ≤ op ∧ op ≤ 6) ∧ 0 ≤ who ∧ 0 ≤ key ∧ 0 ≤ new ∧ ((op = 2 ∨ op = 3 ∨ op = 5) → 1 ≤ typ ∧ typ ≤ 6) := hO
  obtain ⟨h1, h2, h3, h4, h5⟩ := hs
  have hgood := of_decide_eq_true hG
  have hl : okL l := hgood.2.1
  have h44 : l.length ≤ 4 := hgood.1.1
  obtain ⟨K, hK⟩ : ∃ K, keyOf l who = K := ⟨_, rfl⟩
  unfold knowsR at hk
  unfold actR at hx
  dsimp only at hk hx
  rw [hK] at hk
  rw [if_pos h16] at hx
  have hfull : ¬ (hasR l who = false ∧ 4 ≤ l.length) ↔ (insR l who new).length ≤ 4 := by
    cases hb : hasR l who with
    | true => rw [len_ins_old hl hb]; simp; omega
    | false => rw [len_ins_new hl hb]; simp; omega
  clear h1 hO
  by_cases hn : new = 0
  · rw [if_pos hn] at hx
    cases hx
    rcases h16 with rfl | rfl
    · exact doRef_1a l hl v h t g s who key new typ st w0 hv hm hG h2 h3 h4 K hK (by rw [if_neg (by decide), if_pos rfl] at hk; exact hk) hn
    · exact doRef_6a l hl v h t g s who key new typ st w0 hv hm hG h2 h3 h4 K hK hn
  · rw [if_neg hn] at hx
    by_cases hf : hasR l who = false ∧ 4 ≤ l.length
    · rw [if_pos hf] at hx
      cases hx
      have hF : decide ((insR l who new).length ≤ 4) = false := decide_eq_false fun h => hfull.2 h hf
      rcases h16 with rfl | rfl
      · exact doRef_1c l hl v h t g s who key new typ st w0 hv hm hG h2 h3 h4 K hK (by rw [if_neg (by decide), if_pos rfl] at hk; exact hk) (by omega) hF
      · exact doRef_6c l hl v h t g s who key new typ st w0 hv hm hG h2 h3 h4 K hK (by omega) hF
    · rw [if_neg hf] at hx
      cases hx
      have hF : decide ((insR l who new).length ≤ 4) = true := decide_eq_true (hfull.1 hf)
      rcases h16 with rfl | rfl
      · exact doRef_1b l hl v h t g s who key new typ st w0 hv hm hG h2 h3 h4 K hK (by rw [if_neg (by decide), if_pos rfl] at hk; exact hk) (by omega) hF
      · exact doRef_6b l hl v h t g s who key new typ st w0 hv hm hG h2 h3 h4 K hK (by omega) hF
end Go.Proofs.Ytkfggilildiflac
