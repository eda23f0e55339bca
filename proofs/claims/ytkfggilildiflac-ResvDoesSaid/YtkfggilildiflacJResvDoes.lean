/-
  The law ResvDoes: for all reservations and every operation it answers true. No condition.
-/
import Derived.Test.YtkfggilildiflacRows
import Derived.Test.YtkfggilildiflacJO0

namespace Go.Proofs.Ytkfggilildiflac
open Go.ChangeShapes Go.WideShapes Go.ChangeAt Go.RowKit
theorem doRef_5 (l : List Rg) (v : Value) (h t g : Int) (s : Bool) (who key new typ : Int) (st : Bool) (w0 : World) (hv : RegsAt w0 v l) (hm : l.length ≤ 100) (hG : decide (goodR ⟨l, h, t, s, g⟩) = true) (hO : soundR ⟨5, who, key, new, typ, st⟩) (hk : knowsR ⟨l, h, t, s, g⟩ ⟨5, who, key, new, typ, st⟩) (x : Rv) (er : Int) (hx : actR ⟨l, h, t, s, g⟩ ⟨5, who, key, new, typ, st⟩ = (x, er)) : DoRef l v h t g s 5 who key new typ st w0 x er := by
  have hs : (1 ≤ (5 : Int) ∧ (5 : Int) ≤ 6) ∧ 0 ≤ who ∧ 0 ≤ key ∧ 0 ≤ new ∧ (((5 : Int) = 2 ∨ (5 : Int) = 3 ∨ (5 : Int) = 5) → 1 ≤ typ ∧ typ ≤ 6) := hO
  obtain ⟨h1, h2, h3, h4, h5⟩ := hs
  have hgood := of_decide_eq_true hG
  have hl : okL l := hgood.2.1
  obtain ⟨K, hK⟩ : ∃ K, keyOf l who = K := ⟨_, rfl⟩
  obtain ⟨h5a, h5b⟩ := h5 (by decide)
  unfold knowsR at hk
  unfold actR at hx
  dsimp only at hk hx
  rw [hK, if_neg (by decide), if_neg (by decide)] at hk
  obtain ⟨hk0, hk1⟩ := hk
  rw [if_neg (by decide), if_neg (by decide), if_neg (by decide), if_neg (by decide)] at hx
  have hq : ∀ y : Rg, otherR ⟨5, who, key, new, typ, st⟩ y = (y.1 != who && y.2 == new) := fun y => rfl
  have hov : overR ⟨l, h, t, s, g⟩ ⟨5, who, key, new, typ, st⟩ ↔ h ≠ -1 ∧ keyOf l h = new := Iff.rfl
  obtain ⟨q, hqq⟩ : ∃ q, otherR ⟨5, who, key, new, typ, st⟩ = q := ⟨_, rfl⟩
  rw [hqq] at hx hq
  have hgn := gone_none (l := l) (q := q)
  have hst1 := fun a b => (endR_gen ⟨l, a, b, s, g⟩ q).2
  have hE : ∀ a b, ({ endR ⟨l, a, b, s, g⟩ q with gen := wrap64 (g + 1) } : Rv) = ⟨(endR ⟨l, a, b, s, g⟩ q).regs, (endR ⟨l, a, b, s, g⟩ q).holder, (endR ⟨l, a, b, s, g⟩ q).typ, s, wrap64 (g + 1)⟩ := fun a b => by
    have h9 : (endR ⟨l, a, b, s, g⟩ q).stays = s := hst1 a b
    show Rv.mk _ _ _ (endR ⟨l, a, b, s, g⟩ q).stays _ = _
    rw [h9]
  by_cases ho : overR ⟨l, h, t, s, g⟩ ⟨5, who, key, new, typ, st⟩
  · rw [if_pos (.inl ho), if_pos ho] at hx
    try dsimp only at hx
    rw [hE] at hx
    cases hx
    obtain ⟨ho1, ho2⟩ := hov.1 ho
    by_cases hg0 : ((l.filter q).map (·.1)).length = 0
    · exact doRef_5a l hl v h t g s who key new typ st w0 hv hm hG h2 h3 h4 K hK hk0 hk1 h5a h5b q hq ho1 _ rfl ho2 hg0
    · exact doRef_5b l hl v h t g s who key new typ st w0 hv hm hG h2 h3 h4 K hK hk0 hk1 h5a h5b q hq ho1 _ rfl ho2 hg0
  · by_cases hg0 : ((l.filter q).map (·.1)).length = 0
    · rw [if_neg (fun hz => hz.elim ho (hgn.1 hg0))] at hx
      cases hx
      by_cases hh : h = -1
      · exact doRef_5e l hl v h t g s who key new typ st w0 hv hm hG h2 h3 h4 K hK hk0 hk1 h5a h5b q hq hh hg0
      · exact doRef_5f l hl v h t g s who key new typ st w0 hv hm hG h2 h3 h4 K hK hk0 hk1 h5a h5b q hq hh _ rfl (fun e => ho (hov.2 ⟨hh, e⟩)) hg0
    · rw [if_pos (.inr (by by_cases ha : l.any q = true; exact ha; exact absurd (hgn.2 ha) hg0)), if_neg ho] at hx
      try dsimp only at hx
      rw [hE] at hx
      cases hx
      by_cases hh : h = -1
      · exact doRef_5c l hl v h t g s who key new typ st w0 hv hm hG h2 h3 h4 K hK hk0 hk1 h5a h5b q hq hh hg0
      · exact doRef_5d l hl v h t g s who key new typ st w0 hv hm hG h2 h3 h4 K hK hk0 hk1 h5a h5b q hq hh _ rfl (fun e => ho (hov.2 ⟨hh, e⟩)) hg0
end Go.Proofs.Ytkfggilildiflac

namespace Go.Proofs.Ytkfggilildiflac
open Go.ChangeShapes Go.WideShapes Go.ChangeAt Go.RowKit
theorem doRef_any (l : List Rg) (v : Value) (h t g : Int) (s : Bool) (op who key new typ : Int) (st : Bool) (w0 : World) (hv : RegsAt w0 v l) (hm : l.length ≤ 100) (x : Rv) (er : Int) (hx : doR ⟨l, h, t, s, g⟩ ⟨op, who, key, new, typ, st⟩ = (x, er)) : DoRef l v h t g s op who key new typ st w0 x er := by
  unfold doR at hx
  by_cases hgs : goodR ⟨l, h, t, s, g⟩ ∧ soundR ⟨op, who, key, new, typ, st⟩
  · rw [if_neg (fun hh => hh hgs)] at hx
    have hG : decide (goodR ⟨l, h, t, s, g⟩) = true := decide_eq_true hgs.1
    by_cases hk : knowsR ⟨l, h, t, s, g⟩ ⟨op, who, key, new, typ, st⟩
    · rw [if_neg (fun hh => hh hk)] at hx
      have hop : 1 ≤ op ∧ op ≤ 6 := hgs.2.1
      by_cases h16 : op = 1 ∨ op = 6
      · exact doRef_16 l v h t g s op who key new typ st w0 hv hm hG hgs.2 hk h16 x er hx
      · by_cases h234 : op = 2 ∨ op = 3 ∨ op = 4
        · exact doRef_234 l v h t g s op who key new typ st w0 hv hm hG hgs.2 hk h234 x er hx
        · obtain rfl : op = 5 := by omega
          exact doRef_5 l v h t g s who key new typ st w0 hv hm hG hgs.2 hk x er hx
    · rw [if_pos hk] at hx
      cases hx
      exact doRef_unknown l v h t g s op who key new typ st w0 hv hm hG hgs.2 hk
  · rw [if_pos hgs] at hx
    cases hx
    exact doRef_form l v h t g s op who key new typ st w0 hv hm hgs
end Go.Proofs.Ytkfggilildiflac

namespace Go.Proofs.Ytkfggilildiflac
open Go.ChangeShapes Go.WideShapes Go.ChangeAt Go.RowKit
attribute [local irreducible] wpList wpListIn Oper.quietAt wpM
theorem r_errNil {P : Program} {o : Oper} {a : Act} {w : World} {t t' : TypeId} {x : Operand} {n : Int} {q : Bool} (hop : o.op = .binOp .eql t x (.const .nilIface) t') (hx : evO a x = some (errV n)) (hi : IfT P t) (hq : decide (n = 0) = q) : (execOp a.eval o).run P w = .ok (.value (.bool q)) w := by
  subst hq
  by_cases hn : n = 0
  · subst hn
    exact r_eqlNil0 hop hx hi
  · rw [decide_eq_false hn]
    rw [show errV n = .iface 45 (.int .i64 n) from if_neg hn] at hx
    exact r_eqlNil hop hx hi
theorem checkC {E : Int} {l : List Rg} {h t g : Int} {s : Bool} (hE : (if goodR ⟨l, h, t, s, g⟩ then (0 : Int) else 2) = E) (v : Value) (w0 : World) (hv : RegsAt w0 v l) (hm : l.length ≤ 1000000) :
    Calls Try.prog 14 #[.agg #[v, .int .i64 h, .int .i64 t, .bool s, .int .i64 g]] w0 fun e w' => e = .returned (errV E) ∧ Below w0.heap.size w0 w' := by
  have := check_any l h t g s v w0 hv hm
  by_cases hg : goodR ⟨l, h, t, s, g⟩
  · rw [if_pos hg] at hE
    subst hE
    rw [decide_eq_true hg] at this
    exact this
  · rw [if_neg hg] at hE
    subst hE
    rw [decide_eq_false hg] at this
    exact this
theorem do_len2 {r x : Rv} {o : Ro} {e : Int} (h : doR r o = (x, e)) : x.regs.length ≤ 2 * r.regs.length + 1 := by
  have hf : ∀ p : Rg → Bool, (r.regs.filter p).length ≤ r.regs.length := fun p => List.length_filter_le _ _
  have hins : ∀ a b, (insR r.regs a b).length ≤ 2 * r.regs.length + 1 := fun a b => by
    unfold insR
    rw [List.length_append, List.length_cons]
    exact Nat.le_trans (Nat.add_le_add (List.length_filter_le _ _) (Nat.succ_le_succ (List.length_filter_le _ _))) (by omega)
  have hend : ∀ (s : Rv) (p : Rg → Bool), s.regs = r.regs → (endR s p).regs.length ≤ 2 * r.regs.length + 1 := fun s p hs => by
    rw [endR_regs, hs]
    have := hf fun g => !p g
    omega
  have h0 : nobody.regs.length ≤ 2 * r.regs.length + 1 := by simp [nobody]
  unfold doR at h
  split at h
  · cases h; exact h0
  · split at h
    · cases h; exact h0
    · unfold actR at h
      repeat' split at h
      all_goals
        cases h
        first
          | exact h0
          | exact hend _ _ rfl
          | exact hins _ _
          | (show r.regs.length ≤ 2 * r.regs.length + 1; omega)
          | (refine hend _ _ ?_; split <;> rfl)
theorem good_err {r : Rv} : decide ((if goodR r then (0 : Int) else 2) = 0) = decide (goodR r) := by
  by_cases h : goodR r
  · rw [if_pos h, decide_eq_true h]; rfl
  · rw [if_neg h, decide_eq_false h]; rfl
theorem csz_paste {cs vs : Array Value} {off : Nat} (h : off + csz vs ≤ csz cs) : csz (paste cs off vs) = csz cs := by
  unfold paste
  split
  · next h1 => exact h1.2.symm
  · unfold csz at h ⊢
    unfold splice
    simp only [List.size_toArray, List.length_append, List.length_take, List.length_drop, Array.length_toList]
    omega
/-- What is copied for the program. -/
theorem s_copyL {ops : Array Oper} {Q : Exit → Act → World → Prop} {o : Oper} {rest : List Oper} {a : Act} {w W0 : World} {l : List Rg} {v : Value} {L : List Blk} {nb : Nat} {x y : Operand}
    (hS : St W0 w ((nb, #[], 39) :: L)) (hv : RegsAt w v l) (hm : l.length ≤ 100)
    (hw : Region.wanted o (yielded ops a.tmps) = true) (hop : o.op = .call { callee := .builtin .append, args := #[x, y], argTypes := #[22, 22] }) (hx : evO a x = some (.slice (some ⟨nb, 0, none⟩) 0 0)) (hy : evO a y = some v)
    (hk : ∀ sv' Lr' w', RgL l sv' Lr' → St W0 w' (Lr' ++ L) → wpList Try.prog ops Q rest (a.put o.dst sv') w') : wpList Try.prog ops Q (o :: rest) a w := by
  obtain ⟨p, c, rfl, hc⟩ := hv.slice
  obtain ⟨p', c', e1, _, h0, h1⟩ := hv
  simp only [Value.slice.injEq] at e1
  obtain ⟨rfl, _, rfl⟩ := e1
  cases p with
  | none =>
    obtain rfl := h0 rfl
    obtain rfl : l = [] := List.eq_nil_of_length_eq_zero (by omega)
    refine Stp.go Aa hw (by unfold Dh; rw [hop]) (r_appendN hop hx hy (by infer_instance) (Nat.le_refl _)) ?_
    exact hk _ [_] _ (.inr ⟨nb, 0, [], rfl, Nat.le_refl _, by decide, rfl, rfl⟩) hS
  | some q =>
    have hsrc : ∀ j u, (rgs l)[j]? = some u → w.cell? (q.add j) = some u := by
      intro j u hj
      have hne : l ≠ [] := by rintro rfl; simp [rgs] at hj
      obtain ⟨b, o1, cs, ty, fr, e1, e2, e3⟩ := h1 hne
      cases e1
      rw [add_addr, cell_of_row w b (o1 + j) cs ty fr e2, ← Array.getElem?_toList]
      exact e3 j u hj
    refine s_append Aa Ab hS hw hop hx hy (by infer_instance) (by exact at_ 0 rfl) (olds := []) (spare := []) (by rfl) (by rfl) (Nat.le_refl _) (by rfl) (xs := rgs l) hsrc (rgs_len l) (rgs_one _) (by unfold maxLen; omega) (Nat.zero_add _) ?_
    intro by2 cy2 S2 w' hq1 hq2 hq3 hS2
    refine hk _ [_] _ (.inr ⟨by2, cy2, S2, rfl, hq1, hq2, hq3, rfl⟩) ?_
    rw [List.nil_append] at hS2
    exact hS2
set_option maxRecDepth 100000 in
set_option maxHeartbeats 16000000 in
theorem resvDoes_any (l : List Rg) (h t g : Int) (s : Bool) (op who key new typ : Int) (st : Bool) (v : Value) (w0 : World) (hv : RegsAt w0 v l) :
    Calls Try.prog 3 #[.agg #[v, .int .i64 h, .int .i64 t, .bool s, .int .i64 g], .agg #[.int .i64 op, .int .i64 who, .int .i64 key, .int .i64 new, .int .i64 typ, .bool st]] w0 fun e w' => e = .returned (.bool true) ∧ Below w0.heap.size w0 w' := by
  obtain ⟨p, c, rfl, hc⟩ := hv.slice
  have hS := St.start w0
  by_cases hm : l.length ≤ 100
  · obtain ⟨⟨xl, xh, xt, xs, xg⟩, er, hx⟩ : ∃ x er, doR ⟨l, h, t, s, g⟩ ⟨op, who, key, new, typ, st⟩ = (x, er) := ⟨_, _, rfl⟩
    go_enter Try.func3, Try.ntmps3
    repeat' (first | ((with_reducible refine Ad ?_); first | ((first | refine Bn Aa ?_ | refine Bm Aa ?_ | refine Az Aa ?_ | refine Bf Aa Ab hS ?_ | refine Bi Aa Ab hS ?_ | refine Ag Aa ?_ | refine Af Aa ?_ | refine Bs Aa ?_ | refine Bx Aa ?_ | refine Ao Aa ?_ | refine Bw Aa ?_ | refine Br Aa ?_ | refine Be Aa ?_ | refine Bg Aa ?_ | refine Bv Aa (fun hc => ?_) (fun hc => ?_) | refine Ay Aa ?_ | refine Am Aa ?_ | refine Aw Aa ?_ | refine Ap Aa ?_ | refine Ah Aa ?_ | refine Ax Aa ?_ | refine Ar Aa ?_ | refine Aj Aa ?_ | refine Ae Aa ?_ | refine Ai Aa ?_ | refine Bp Aa ?_ | refine Bo Aa ?_ | refine Bu Aa ?_ | refine Bc Aa ?_ | refine As Aa ?_ | refine Ak Aa ?_ | refine Aq Aa ?_ | refine Bj Aa ?_ | refine Bk Aa ?_) <;> refine Ac ?_) | ((first | refine Bh Aa Ab hS ?_ | refine Bt Aa Ab hS ?_ | refine Ba Aa Ab hS ?_ | refine Bd Aa Ab hS ?_); clear hS; intro b w hS; refine Ac ?_) | ((first | refine Av Aa Ab hS ?_ | refine Au Aa Ab hS ?_ | refine Bb Aa Ab hS ?_); clear hS; intro w hS; refine Ac ?_) | (refine Cb Aa Ab hS (alive_any _) ?_; clear hS; intro w hS; refine Ac ?_)) | ((fail_if_success (with_reducible refine Ad ?_)); first | go_step | go_step3 | rw [Exit.noGoto_normal] | rw [Exit.noGoto_ret] | rw [Exit.noGoto_exit]))
    refine s_copyL hS (hv.below hS.below) hm (by rfl) (by rfl) (by rfl) (by rfl) ?_
    intro sv1 Lr1 w1 hR1 hS1
    obtain ⟨p1, c1, rfl⟩ := hR1.slice
    refine Ac ?_
    replace hS := hS1.perm (List.perm_append_comm (l₁ := Lr1))
    simp only [List.cons_append, List.nil_append] at hS
    clear hS1
    repeat' (first | ((with_reducible refine Ad ?_); first | ((first | refine Bn Aa ?_ | refine Bm Aa ?_ | refine Az Aa ?_ | refine Bf Aa Ab hS ?_ | refine Bi Aa Ab hS ?_ | refine Ag Aa ?_ | refine Af Aa ?_ | refine Bs Aa ?_ | refine Bx Aa ?_ | refine Ao Aa ?_ | refine Bw Aa ?_ | refine Br Aa ?_ | refine Be Aa ?_ | refine Bg Aa ?_ | refine Bv Aa (fun hc => ?_) (fun hc => ?_) | refine Ay Aa ?_ | refine Am Aa ?_ | refine Aw Aa ?_ | refine Ap Aa ?_ | refine Ah Aa ?_ | refine Ax Aa ?_ | refine Ar Aa ?_ | refine Aj Aa ?_ | refine Ae Aa ?_ | refine Ai Aa ?_ | refine Bp Aa ?_ | refine Bo Aa ?_ | refine Bu Aa ?_ | refine Bc Aa ?_ | refine As Aa ?_ | refine Ak Aa ?_ | refine Aq Aa ?_ | refine Bj Aa ?_ | refine Bk Aa ?_) <;> refine Ac ?_) | ((first | refine Bh Aa Ab hS ?_ | refine Bt Aa Ab hS ?_ | refine Ba Aa Ab hS ?_ | refine Bd Aa Ab hS ?_); clear hS; intro b w hS; refine Ac ?_) | ((first | refine Av Aa Ab hS ?_ | refine Au Aa Ab hS ?_ | refine Bb Aa Ab hS ?_); clear hS; intro w hS; refine Ac ?_)) | ((fail_if_success (with_reducible refine Ad ?_)); first | go_step | go_step3 | rw [Exit.noGoto_normal] | rw [Exit.noGoto_ret] | rw [Exit.noGoto_exit]))
    have hxl := do_len2 hx
    dsimp only at hxl
    have hDR := fun (w : World) hw => doRef_any l (.slice p l.length c) h t g s op who key new typ st w hw hm _ er hx
    unfold DoRef at hDR
    refine s_call Aa (by rfl) (by rfl) (by rfl) (by rfl) (by rfl) (by infer_instance) (do_c (st := st) hx _ _ (hR1.inn hS (by intro x hx; simp [hx])) (by omega)) ?_
    rintro e w2 ⟨sv2, rfl, ho, hB⟩
    obtain ⟨p2, c2, rfl⟩ := ho.slice
    refine ⟨_, rfl, ?_⟩
    refine Ac ?_
    obtain ⟨Lr2, hR2, hS2⟩ := ho.join hS hB
    simp only [List.cons_append, List.nil_append] at hS2
    replace hS := hS2
    clear hS2 ho hB
    repeat' (first | ((with_reducible refine Ad ?_); first | ((first | refine Bn Aa ?_ | refine Bm Aa ?_ | refine Az Aa ?_ | refine Bf Aa Ab hS ?_ | refine Bi Aa Ab hS ?_ | refine Ag Aa ?_ | refine Af Aa ?_ | refine Bs Aa ?_ | refine Bx Aa ?_ | refine Ao Aa ?_ | refine Bw Aa ?_ | refine Br Aa ?_ | refine Be Aa ?_ | refine Bg Aa ?_ | refine Bv Aa (fun hc => ?_) (fun hc => ?_) | refine Ay Aa ?_ | refine Am Aa ?_ | refine Aw Aa ?_ | refine Ap Aa ?_ | refine Ah Aa ?_ | refine Ax Aa ?_ | refine Ar Aa ?_ | refine Aj Aa ?_ | refine Ae Aa ?_ | refine Ai Aa ?_ | refine Bp Aa ?_ | refine Bo Aa ?_ | refine Bu Aa ?_ | refine Bc Aa ?_ | refine As Aa ?_ | refine Ak Aa ?_ | refine Aq Aa ?_ | refine Bj Aa ?_ | refine Bk Aa ?_) <;> refine Ac ?_) | ((first | refine Bh Aa Ab hS ?_ | refine Bt Aa Ab hS ?_ | refine Ba Aa Ab hS ?_ | refine Bd Aa Ab hS ?_); clear hS; intro b w hS; refine Ac ?_) | ((first | refine Av Aa Ab hS ?_ | refine Au Aa Ab hS ?_ | refine Bb Aa Ab hS ?_); clear hS; intro w hS; refine Ac ?_)) | ((fail_if_success (with_reducible refine Ad ?_)); first | go_step | go_step3 | rw [Exit.noGoto_normal] | rw [Exit.noGoto_ret] | rw [Exit.noGoto_exit]))
    refine s_call Aa (by rfl) (by rfl) (by rfl) (by rfl) (by rfl) (by infer_instance) (hDR _ (hv.below hS.below)) ?_
    rintro e w3 ⟨sv3, rfl, hy3, hB⟩
    obtain ⟨p3, c3, rfl, _⟩ := hy3.slice
    refine ⟨_, rfl, ?_⟩
    refine Ac ?_
    rename_i b2 z1 b3 z2 z3 z4 b5 z5 z6 z7 z8 z9 z10 z11 z12 z13
    obtain ⟨b6, hb6e⟩ : ∃ x, x = b := ⟨_, rfl⟩
    subst hb6e
    have hS0 := Ab.call hS hB
    clear hS hB hDR
    have hb6 := hS0.blk 0 rfl
    have hb5 := hS0.blk 1 rfl
    have hb2 := hS0.blk 3 rfl
    have hX3 := hR2.inn hS0 (by intro x hx; simp [hx])
    have hC3 := hR1.inn hS0 (by intro x hx; simp [hx])
    have hv3 := hv.below hS0.below
    have hS := St.start w3
    obtain ⟨G, hG⟩ : ∃ G, decide (goodR ⟨l, h, t, s, g⟩) = G := ⟨_, rfl⟩
    obtain ⟨E, hE⟩ : ∃ E, (if goodR ⟨l, h, t, s, g⟩ then (0 : Int) else 2) = E := ⟨_, rfl⟩
    have hEG := good_err (r := ⟨l, h, t, s, g⟩)
    rw [hE, hG] at hEG
    dsimp only at hX3 hy3
    repeat' (first | ((with_reducible refine Ad ?_); first | ((first | refine Bn Aa ?_ | refine Bm Aa ?_ | refine Az Aa ?_ | refine Bf Aa Ab hS ?_ | refine Bi Aa Ab hS ?_ | refine Ag Aa ?_ | refine Af Aa ?_ | refine Bs Aa ?_ | refine Bx Aa ?_ | refine Ao Aa ?_ | refine Bw Aa ?_ | refine Br Aa ?_ | refine Be Aa ?_ | refine Bg Aa ?_ | refine Bv Aa (fun hc => ?_) (fun hc => ?_) | refine Ay Aa ?_ | refine Am Aa ?_ | refine Aw Aa ?_ | refine Ap Aa ?_ | refine Ah Aa ?_ | refine Ax Aa ?_ | refine Ar Aa ?_ | refine Aj Aa ?_ | refine Ae Aa ?_ | refine Ai Aa ?_ | refine Bp Aa ?_ | refine Bo Aa ?_ | refine Bu Aa ?_ | refine Bc Aa ?_ | refine As Aa ?_ | refine Ak Aa ?_ | refine Aq Aa ?_ | refine Bj Aa ?_ | refine Bk Aa ?_) <;> refine Ac ?_) | ((first | refine Bh Aa Ab hS ?_ | refine Bt Aa Ab hS ?_ | refine Ba Aa Ab hS ?_ | refine Bd Aa Ab hS ?_); clear hS; intro b w hS; refine Ac ?_) | ((first | refine Av Aa Ab hS ?_ | refine Au Aa Ab hS ?_ | refine Bb Aa Ab hS ?_); clear hS; intro w hS; refine Ac ?_)) | ((fail_if_success (with_reducible refine Ad ?_)); first | go_step | go_step3 | rw [Exit.noGoto_normal] | rw [Exit.noGoto_ret] | rw [Exit.noGoto_exit]))
    refine Cd 24 (by kernel_rfl) (by kernel_rfl) ?_
    dsimp only [List.take, List.drop]
    iterate 24 (first | (refine Dd (fun _ => rfl) ?_; simp only [Act.put, List.setIfInBounds_toArray, List.set_cons_zero, List.set_cons_succ]) | (refine Cr rfl (fun _ => rfl) _ (fun w => r_alloc (a := ⟨#[], []⟩) rfl (by infer_instance)) ?_; simp only [Act.put, List.setIfInBounds_toArray, List.set_cons_zero, List.set_cons_succ]) | (refine Cm rfl (fun _ => rfl) (fun K hK => ?_); apply Exists.intro; apply Exists.intro; apply Exists.intro; apply Exists.intro; refine ⟨fun pB w' hw' hF => ?_, hK _ _ ?_⟩; (focus (exact Cg (by rfl) (by rfl) (by infer_instance) (by rfl) (by repeat (first | exact (fun _ h => absurd h List.not_mem_nil) | refine List.forall_mem_cons.2 ⟨by first | rfl | (simp only [Value.cells]; first | rfl | omega), ?_⟩)) (by (try conv => lhs; simp only [List.flatMap_cons, List.flatMap_nil, Value.cells, List.append_nil, List.cons_append, List.nil_append]); first | done | rfl) (by decide) (by decide))); clear hK K; simp only [Act.put, List.setIfInBounds_toArray, List.set_cons_zero, List.set_cons_succ]) | (refine Cx (fun _ => rfl) (fun K hK => ?_); apply Exists.intro; refine ⟨fun pB w' hw' hF => ?_, hK _ _ ?_⟩; (focus (have hZ := (Ab).call hS hw'; first | exact (Eb (sameRef_any (B := true) xl xl _ _ xh xt xg xh xt xg xs xs (by simp) _ (hX3.below hZ.below) (hy3.below hZ.below) (by omega))) | exact (Eb (num_errV er _)) | exact (Eb (sameRef_any (B := true) l l _ _ h t g h t g s s (by simp) _ (hC3.below hZ.below) (hv3.below hZ.below) (by omega))) | exact (Eb (checkC hE _ _ (hC3.below hZ.below) (by omega))) | exact (q_val (r_errNil (by rfl) (by rfl) (by infer_instance) hEG)) | exact (Eb (goodRef_d hG _ _ (hv3.below hZ.below) (by omega))) | exact (q_val (r_neB (by rfl) (by rfl) (by rfl) (by rfl) (show (!(G == G)) = false by simp))) | exact Dv | exact Cz | exact Dk Ab hZ | exact Dr (by first | exact ((hZ).far hb6).1) | exact Dr (by first | exact ((hZ).far hb5).1) | exact Dr (by first | exact ((hZ).far hb2).1) | exact Dl Ab hZ | exact Dt (by first | exact ((hZ).far hb6).1) | exact Dt (by first | exact ((hZ).far hb5).1) | exact Dt (by first | exact ((hZ).far hb2).1) | exact Ci | exact Cf | exact Dz | exact Dx | exact Co | exact Dy | exact Dw | exact Dn | exact Dm | exact Dc | exact Cp | exact Cw | exact Cq | exact Ch | exact Db | exact Cy | exact Cj | exact Cc | exact Cl | exact Du | exact Ds | exact Ea | exact Dj | exact Da | exact Ck | exact Dg | exact Df | exact Cn)); clear hK K; simp only [Act.put, List.setIfInBounds_toArray, List.set_cons_zero, List.set_cons_succ]))
    refine Di ?_
    intro pB w hcq hfq hnq
    replace hS := (Ab).news hS hcq _ (by first | decide | simp) hfq hnq
    first | simp only [List.map_nil, List.nil_append] at hS | simp only [List.map_cons, List.map_nil, List.cons_append, List.nil_append] at hS
    clear hcq hfq hnq
    try dsimp only
    repeat' (first | ((with_reducible refine Ad ?_); first | ((first | refine Bn Aa ?_ | refine Bm Aa ?_ | refine Az Aa ?_ | refine Bf Aa Ab hS ?_ | refine Dp Aa (by first | exact ((hS).far hb6).1) ?_ | refine Bi Aa Ab hS ?_ | refine Dq Aa (by first | exact ((hS).far hb6).1) ?_ | refine Ag Aa ?_ | refine Af Aa ?_ | refine Bs Aa ?_ | refine Bx Aa ?_ | refine Ao Aa ?_ | refine Bw Aa ?_ | refine Br Aa ?_ | refine Be Aa ?_ | refine Bg Aa ?_ | refine Bv Aa (fun hc => ?_) (fun hc => ?_) | refine Ay Aa ?_ | refine Am Aa ?_ | refine Aw Aa ?_ | refine Ap Aa ?_ | refine Ah Aa ?_ | refine Ax Aa ?_ | refine Ar Aa ?_ | refine Aj Aa ?_ | refine Ae Aa ?_ | refine Ai Aa ?_ | refine Bp Aa ?_ | refine Bo Aa ?_ | refine Bu Aa ?_ | refine Bc Aa ?_ | refine As Aa ?_ | refine Ak Aa ?_ | refine Aq Aa ?_ | refine Bj Aa ?_ | refine Bk Aa ?_) <;> refine Ac ?_) | ((first | refine Bh Aa Ab hS ?_ | refine Bt Aa Ab hS ?_ | refine Ba Aa Ab hS ?_ | refine Bd Aa Ab hS ?_); clear hS; intro b w hS; refine Ac ?_) | ((first | refine Av Aa Ab hS ?_ | refine Au Aa Ab hS ?_ | refine Bb Aa Ab hS ?_); clear hS; intro w hS; refine Ac ?_)) | ((fail_if_success (with_reducible refine Ad ?_)); first | go_step | go_step3 | rw [Exit.noGoto_normal] | rw [Exit.noGoto_ret] | rw [Exit.noGoto_exit]))
    replace hS := Ab.call hS0 hS.below
    clear hX3 hC3 hy3 hv3 hb6 hb5 hb2 hS0
    rcases hR2 with ⟨h1, rfl, rfl⟩ | ⟨g2, c2', sp, h1, hr1, hr2, hr3, rfl⟩
    · cases h1
      repeat' (first | ((with_reducible refine Ad ?_); first | ((first | refine Bn Aa ?_ | refine Bm Aa ?_ | refine Az Aa ?_ | refine Bf Aa Ab hS ?_ | refine Bi Aa Ab hS ?_ | refine Ag Aa ?_ | refine Af Aa ?_ | refine Bs Aa ?_ | refine Bx Aa ?_ | refine Ao Aa ?_ | refine Bw Aa ?_ | refine Br Aa ?_ | refine Be Aa ?_ | refine Bg Aa ?_ | refine Bv Aa (fun hc => ?_) (fun hc => ?_) | refine Ay Aa ?_ | refine Am Aa ?_ | refine Aw Aa ?_ | refine Ap Aa ?_ | refine Ah Aa ?_ | refine Ax Aa ?_ | refine Ar Aa ?_ | refine Aj Aa ?_ | refine Ae Aa ?_ | refine Ai Aa ?_ | refine Bp Aa ?_ | refine Bo Aa ?_ | refine Bu Aa ?_ | refine Bc Aa ?_ | refine As Aa ?_ | refine Ak Aa ?_ | refine Aq Aa ?_ | refine Bj Aa ?_ | refine Bk Aa ?_) <;> refine Ac ?_) | ((first | refine Bh Aa Ab hS ?_ | refine Bt Aa Ab hS ?_ | refine Ba Aa Ab hS ?_ | refine Bd Aa Ab hS ?_); clear hS; intro b w hS; refine Ac ?_) | ((first | refine Av Aa Ab hS ?_ | refine Au Aa Ab hS ?_ | refine Bb Aa Ab hS ?_); clear hS; intro w hS; refine Ac ?_)) | ((fail_if_success (with_reducible refine Ad ?_)); first | go_step | go_step3 | rw [Exit.noGoto_normal] | rw [Exit.noGoto_ret] | rw [Exit.noGoto_exit]))
      go_loopw [62] (fun u62 wr => u62 = .int .i64 0 ∧ St w0 wr ((b6, #[.slice none 0 0, .int .i64 xh, .int .i64 xt, .bool xs, .int .i64 xg], 24) :: (b5, #[.slice p1 l.length c1, .int .i64 h, .int .i64 t, .bool s, .int .i64 g], 24) :: (b3, #[.int .i64 op, .int .i64 who, .int .i64 key, .int .i64 new, .int .i64 typ, .bool st], 26) :: (b2, #[.slice p l.length c, .int .i64 h, .int .i64 t, .bool s, .int .i64 g], 24) :: Lr1)) (fun _ _ => 0)
      case atStart => exact ⟨rfl, by simpa using hS⟩
      case round =>
        obtain ⟨rfl, hS⟩ := hrel
        repeat' (first | ((with_reducible refine Ad ?_); first | ((first | refine Bn Aa ?_ | refine Bm Aa ?_ | refine Az Aa ?_ | refine Bf Aa Ab hS ?_ | refine Bi Aa Ab hS ?_ | refine Ag Aa ?_ | refine Af Aa ?_ | refine Bs Aa ?_ | refine Bx Aa ?_ | refine Ao Aa ?_ | refine Bw Aa ?_ | refine Br Aa ?_ | refine Be Aa ?_ | refine Bg Aa ?_ | refine Bv Aa (fun hc => ?_) (fun hc => ?_) | refine Ay Aa ?_ | refine Am Aa ?_ | refine Aw Aa ?_ | refine Ap Aa ?_ | refine Ah Aa ?_ | refine Ax Aa ?_ | refine Ar Aa ?_ | refine Aj Aa ?_ | refine Ae Aa ?_ | refine Ai Aa ?_ | refine Bp Aa ?_ | refine Bo Aa ?_ | refine Bu Aa ?_ | refine Bc Aa ?_ | refine As Aa ?_ | refine Ak Aa ?_ | refine Aq Aa ?_ | refine Bj Aa ?_ | refine Bk Aa ?_) <;> refine Ac ?_) | ((first | refine Bh Aa Ab hS ?_ | refine Bt Aa Ab hS ?_ | refine Ba Aa Ab hS ?_ | refine Bd Aa Ab hS ?_); clear hS; intro b w hS; refine Ac ?_) | ((first | refine Av Aa Ab hS ?_ | refine Au Aa Ab hS ?_ | refine Bb Aa Ab hS ?_); clear hS; intro w hS; refine Ac ?_) | (refine Cb Aa Ab hS (sameRef_any (B := true) l l _ _ h t g h t g s s (by simp) _ (hR1.inn hS (by intro x hx; simp [hx])) (hv.below hS.below) (by omega)) ?_; clear hS; intro w hS; refine Ac ?_)) | ((fail_if_success (with_reducible refine Ad ?_)); first | go_step | go_step3 | rw [Exit.noGoto_normal] | rw [Exit.noGoto_ret] | rw [Exit.noGoto_exit]))
        all_goals first | (go_ret; exact ⟨rfl, hS.below⟩) | (exfalso; simp at *; done)
    · cases h1
      dsimp only at hr1 hr3 hS
      replace hS := hS.perm (List.perm_append_comm (l₁ := _ :: _ :: _ :: _ :: Lr1) (l₂ := [_]))
      simp only [List.cons_append, List.nil_append] at hS
      repeat' (first | ((with_reducible refine Ad ?_); first | ((first | refine Bn Aa ?_ | refine Bm Aa ?_ | refine Az Aa ?_ | refine Bf Aa Ab hS ?_ | refine Bi Aa Ab hS ?_ | refine Ag Aa ?_ | refine Af Aa ?_ | refine Bs Aa ?_ | refine Bx Aa ?_ | refine Ao Aa ?_ | refine Bw Aa ?_ | refine Br Aa ?_ | refine Be Aa ?_ | refine Bg Aa ?_ | refine Bv Aa (fun hc => ?_) (fun hc => ?_) | refine Ay Aa ?_ | refine Am Aa ?_ | refine Aw Aa ?_ | refine Ap Aa ?_ | refine Ah Aa ?_ | refine Ax Aa ?_ | refine Ar Aa ?_ | refine Aj Aa ?_ | refine Ae Aa ?_ | refine Ai Aa ?_ | refine Bp Aa ?_ | refine Bo Aa ?_ | refine Bu Aa ?_ | refine Bc Aa ?_ | refine As Aa ?_ | refine Ak Aa ?_ | refine Aq Aa ?_ | refine Bj Aa ?_ | refine Bk Aa ?_) <;> refine Ac ?_) | ((first | refine Bh Aa Ab hS ?_ | refine Bt Aa Ab hS ?_ | refine Ba Aa Ab hS ?_ | refine Bd Aa Ab hS ?_); clear hS; intro b w hS; refine Ac ?_) | ((first | refine Av Aa Ab hS ?_ | refine Au Aa Ab hS ?_ | refine Bb Aa Ab hS ?_); clear hS; intro w hS; refine Ac ?_)) | ((fail_if_success (with_reducible refine Ad ?_)); first | go_step | go_step3 | rw [Exit.noGoto_normal] | rw [Exit.noGoto_ret] | rw [Exit.noGoto_exit]))
      go_loopw [62] (fun u62 wr => ∃ (k : Nat) (cs : Array Value), k ≤ xl.length ∧ u62 = .int .i64 (k : Int) ∧ csz cs = c2 * 2 ∧ St w0 wr ((g2, cs, 39) :: (b6, #[.slice (some ⟨g2, 0, none⟩) xl.length c2, .int .i64 xh, .int .i64 xt, .bool xs, .int .i64 xg], 24) :: (b5, #[.slice p1 l.length c1, .int .i64 h, .int .i64 t, .bool s, .int .i64 g], 24) :: (b3, #[.int .i64 op, .int .i64 who, .int .i64 key, .int .i64 new, .int .i64 typ, .bool st], 26) :: (b2, #[.slice p l.length c, .int .i64 h, .int .i64 t, .bool s, .int .i64 g], 24) :: Lr1)) (fun u62 _ => xl.length - (intOf u62).toNat)
      case atStart => exact ⟨0, _, by omega, rfl, by unfold csz; simp [rgs_len, hr3]; omega, hS⟩
      case round =>
        obtain ⟨k, cs, hk, rfl, hcs, hS⟩ := hrel
        by_cases hlt : k < xl.length
        · have hfit : k * 2 + 2 ≤ csz cs := by omega
          repeat' (first | ((with_reducible refine Ad ?_); first | ((first | refine Bn Aa ?_ | refine Bm Aa ?_ | refine Az Aa ?_ | refine Bf Aa Ab hS ?_ | refine Bi Aa Ab hS ?_ | refine Ag Aa ?_ | refine Af Aa ?_ | refine Bs Aa ?_ | refine Bx Aa ?_ | refine Ao Aa ?_ | refine Bw Aa ?_ | refine Br Aa ?_ | refine Be Aa ?_ | refine Bg Aa ?_ | refine Bv Aa (fun hc => ?_) (fun hc => ?_) | refine Ay Aa ?_ | refine Am Aa ?_ | refine Aw Aa ?_ | refine Ap Aa ?_ | refine Ah Aa ?_ | refine Ax Aa ?_ | refine Ar Aa ?_ | refine Aj Aa ?_ | refine Ae Aa ?_ | refine Ai Aa ?_ | refine Bp Aa ?_ | refine Bo Aa ?_ | refine Bu Aa ?_ | refine Bc Aa ?_ | refine As Aa ?_ | refine Ak Aa ?_ | refine Aq Aa ?_ | refine Bj Aa ?_ | refine Bk Aa ?_) <;> refine Ac ?_) | ((first | refine Bh Aa Ab hS ?_ | refine Bt Aa Ab hS ?_ | refine Ba Aa Ab hS ?_ | refine Bd Aa Ab hS ?_); clear hS; intro b w hS; refine Ac ?_) | ((first | refine Av Aa Ab hS ?_ | refine Au Aa Ab hS ?_ | refine Bb Aa Ab hS ?_); clear hS; intro w hS; refine Ac ?_)) | ((fail_if_success (with_reducible refine Ad ?_)); first | go_step | go_step3 | rw [Exit.noGoto_normal] | rw [Exit.noGoto_ret] | rw [Exit.noGoto_exit]))
          go_roundw
          case rel => exact ⟨k + 1, _, by omega, by push_cast; rfl, by rw [csz_paste (by rw [show csz #[Value.int .i64 0, Value.int .i64 0] = 2 from rfl]; omega)]; exact hcs, hS⟩
          case measure => simp [intOf]; omega
        · obtain rfl : k = xl.length := by omega
          repeat' (first | ((with_reducible refine Ad ?_); first | ((first | refine Bn Aa ?_ | refine Bm Aa ?_ | refine Az Aa ?_ | refine Bf Aa Ab hS ?_ | refine Bi Aa Ab hS ?_ | refine Ag Aa ?_ | refine Af Aa ?_ | refine Bs Aa ?_ | refine Bx Aa ?_ | refine Ao Aa ?_ | refine Bw Aa ?_ | refine Br Aa ?_ | refine Be Aa ?_ | refine Bg Aa ?_ | refine Bv Aa (fun hc => ?_) (fun hc => ?_) | refine Ay Aa ?_ | refine Am Aa ?_ | refine Aw Aa ?_ | refine Ap Aa ?_ | refine Ah Aa ?_ | refine Ax Aa ?_ | refine Ar Aa ?_ | refine Aj Aa ?_ | refine Ae Aa ?_ | refine Ai Aa ?_ | refine Bp Aa ?_ | refine Bo Aa ?_ | refine Bu Aa ?_ | refine Bc Aa ?_ | refine As Aa ?_ | refine Ak Aa ?_ | refine Aq Aa ?_ | refine Bj Aa ?_ | refine Bk Aa ?_) <;> refine Ac ?_) | ((first | refine Bh Aa Ab hS ?_ | refine Bt Aa Ab hS ?_ | refine Ba Aa Ab hS ?_ | refine Bd Aa Ab hS ?_); clear hS; intro b w hS; refine Ac ?_) | ((first | refine Av Aa Ab hS ?_ | refine Au Aa Ab hS ?_ | refine Bb Aa Ab hS ?_); clear hS; intro w hS; refine Ac ?_) | (refine Cb Aa Ab hS (sameRef_any (B := true) l l _ _ h t g h t g s s (by simp) _ (hR1.inn hS (by intro x hx; simp [hx])) (hv.below hS.below) (by omega)) ?_; clear hS; intro w hS; refine Ac ?_)) | ((fail_if_success (with_reducible refine Ad ?_)); first | go_step | go_step3 | rw [Exit.noGoto_normal] | rw [Exit.noGoto_ret] | rw [Exit.noGoto_exit]))
          go_ret
          exact ⟨rfl, hS.below⟩
  · go_enter Try.func3, Try.ntmps3
    repeat' (first | ((with_reducible refine Ad ?_); first | ((first | refine Bn Aa ?_ | refine Bm Aa ?_ | refine Az Aa ?_ | refine Bf Aa Ab hS ?_ | refine Bi Aa Ab hS ?_ | refine Ag Aa ?_ | refine Af Aa ?_ | refine Bs Aa ?_ | refine Bx Aa ?_ | refine Ao Aa ?_ | refine Bw Aa ?_ | refine Br Aa ?_ | refine Be Aa ?_ | refine Bg Aa ?_ | refine Bv Aa (fun hc => ?_) (fun hc => ?_) | refine Ay Aa ?_ | refine Am Aa ?_ | refine Aw Aa ?_ | refine Ap Aa ?_ | refine Ah Aa ?_ | refine Ax Aa ?_ | refine Ar Aa ?_ | refine Aj Aa ?_ | refine Ae Aa ?_ | refine Ai Aa ?_ | refine Bp Aa ?_ | refine Bo Aa ?_ | refine Bu Aa ?_ | refine Bc Aa ?_ | refine As Aa ?_ | refine Ak Aa ?_ | refine Aq Aa ?_ | refine Bj Aa ?_ | refine Bk Aa ?_) <;> refine Ac ?_) | ((first | refine Bh Aa Ab hS ?_ | refine Bt Aa Ab hS ?_ | refine Ba Aa Ab hS ?_ | refine Bd Aa Ab hS ?_); clear hS; intro b w hS; refine Ac ?_) | ((first | refine Av Aa Ab hS ?_ | refine Au Aa Ab hS ?_ | refine Bb Aa Ab hS ?_); clear hS; intro w hS; refine Ac ?_) | (refine Cb Aa Ab hS (alive_any _) ?_; clear hS; intro w hS; refine Ac ?_)) | ((fail_if_success (with_reducible refine Ad ?_)); first | go_step | go_step3 | rw [Exit.noGoto_normal] | rw [Exit.noGoto_ret] | rw [Exit.noGoto_exit]))
    go_ret
    exact ⟨rfl, hS.below⟩
end Go.Proofs.Ytkfggilildiflac

namespace Go.Proofs.Ytkfggilildiflac
open Go.ChangeShapes Go.WideShapes Go.ChangeAt Go.RowKit

theorem Try.own : ownKnob Try.prog.godebug = none := by kernel_rfl
theorem Try.laidOut : laidOutB Try.prog = true := by kernel_rfl

set_option maxRecDepth 100000 in
theorem resvDoes_lifted (os : Os) (started : os.Started) (H : Type) (enc : TypeId × Value → H) :
    ReturnsInHanded {} Try.checked os 3 .any (Rows.resvDoesSpec.pre6 enc Try.prog Try.f3 Rows.resvDoesRow.domain false) (Rows.resvDoesSpec.post enc Try.prog Try.f3 false true false false) := by
  refine law_lift (C := Try.checked) Try.own started (by kernel_rfl) Try.func3
    (ChangeSpec.witness6 (enc := enc) (C := Try.checked) false ⟨#[], #[.agg #[.slice none 0 0, .int .i64 0, .int .i64 0, .bool false, .int .i64 0], .agg #[.int .i64 0, .int .i64 0, .int .i64 0, .int .i64 0, .int .i64 0, .bool false]], []⟩ 8 (by kernel_rfl) (by kernel_rfl) (by kernel_rfl) (by kernel_rfl))
    rfl (by kernel_rfl) Try.underlying4 (fun ds h => by match ds, h with | [a, b], _ => exact ⟨rfl, rfl, rfl⟩) Try.laidOut (by kernel_rfl) ?_
  intro W base args ds p hval0 hA0 hlt hsz0
  have hval : ∀ (j : Nat) t v, Try.f3.params[j]? = some t → args[j]? = some v → Value.okWide Try.prog W .any base t v := hval0
  have hA : DataW.TrodAll enc Try.prog W 0 (fun _ => true) true Try.f3.params.toList args.toList ds p := hA0
  have hsz : (DataW.weightsEach Try.prog Try.f3.params.toList ds).all (· ≤ reachBytes) = true := hsz0
  rw [Try.params3] at hA hval hsz
  obtain ⟨v0, v1, d0, d1, p0, p1, rfl, rfl, rfl, h0, h1⟩ := trodAll_two hA

  obtain ⟨rv, l, h, t, g, s, B0, m0, rfl⟩ := open_resv (hval 0 _ v0 rfl rfl) h0
  obtain ⟨⟨op, who, key, new, typ, st⟩, rfl⟩ := open_op1 (hval 1 _ v1 rfl rfl) h1
  exact resvDoes_any l h t g s op who key new typ st rv W B0

theorem resvDoes_holds : Rows.ResvDoesSaid :=
  OpenClaim.holds_of_wide 3 Try.f3 rfl rfl rfl rfl rfl rfl rfl ⟨rfl, rfl, rfl, rfl, rfl⟩ rfl rfl rfl rfl rfl (by kernel_rfl) Try.func3 (by kernel_rfl)
    (of_decide_eq_true (by kernel_rfl)) (by unfold Func.isWrapper; rw [if_neg (by decide +kernel)]; exact ⟨rfl, rfl⟩)
    (fun os started H enc _ => resvDoes_lifted os started H enc)

end Go.Proofs.Ytkfggilildiflac
