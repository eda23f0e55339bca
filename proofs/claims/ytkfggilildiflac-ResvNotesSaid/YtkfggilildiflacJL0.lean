/-
  Laws that the claims of this seat use, of several texts in one: Rn. No condition of their own.
-/
import Derived.Test.YtkfggilildiflacJK0

namespace Go.Proofs.Ytkfggilildiflac
open Go.ChangeShapes Go.WideShapes Go.ChangeAt Go.RowKit
attribute [local irreducible] wpList wpListIn Oper.quietAt wpM
/-- An own slice of numbers, pair by pair. -/
def NL (l : List Rg) (sv : Value) (Lr : List Blk) : Prop :=
  ∃ g c sp, sv = .slice (some ⟨g, 0, none⟩) (2 * l.length) c ∧ 2 * l.length ≤ c ∧ c ≤ maxLen ∧ sp.length = (c - 2 * l.length) * 1 ∧ Lr = [(g, (rgs l ++ sp).toArray, 3)]
theorem s_appN {ops : Array Oper} {Q : Exit → Act → World → Prop} {o : Oper} {rest : List Oper} {a : Act} {w W0 : World} {l xs : List Rg} {sv : Value} {Lr L : List Blk} {nb m : Nat} {x y : Operand}
    (hS : St W0 w ((nb, (rgs xs).toArray, 3) :: (Lr ++ L))) (hR : NL l sv Lr) (hm : l.length ≤ 1000 ∧ m ≤ 10) (hxs : xs.length = m)
    (hw : Region.wanted o (yielded ops a.tmps) = true) (hop : o.op = .call { callee := .builtin .append, args := #[x, y], argTypes := #[67, 67] }) (hx : evO a x = some sv) (hy : evO a y = some (.slice (some ⟨nb, 0, none⟩) (2 * m) (2 * m)))
    (hk : ∀ sv' Lr' w', NL (l ++ xs) sv' Lr' → St W0 w' (Lr' ++ L) → wpList Try.prog ops Q rest (a.put o.dst sv') w') : wpList Try.prog ops Q (o :: rest) a w := by
  have hsrc : ∀ (w : World), blk w nb = some (.cells (rgs xs).toArray 3 (0, 0)) → ∀ j v, (rgs xs)[j]? = some v → w.cell? ((⟨nb, 0, none⟩ : Addr).add j) = some v := fun w hb => src_blk hb (fun j v h => by rw [Nat.zero_add]; exact h)
  obtain ⟨g, c, sp, rfl, h1, h2, h3, rfl⟩ := hR
  simp only [List.cons_append, List.nil_append] at hS
  refine s_append Aa Ab hS hw hop hx hy (by infer_instance) (by exact at_ 1 rfl) (olds := rgs l) (spare := sp) (by rfl) (by rw [rgs_len]; omega) h1 h3 (xs := rgs xs) (hsrc _ (hS.blk 0 rfl)) (by rw [rgs_len, hxs]; omega) (rgs_one _) (by unfold maxLen at h2 ⊢; omega) rfl ?_
  intro by2 cy2 S2 w' hq1 hq2 hq3 hS2
  have e : 2 * l.length + 2 * m = 2 * (l ++ xs).length := by rw [List.length_append, hxs]; omega
  refine hk _ [_] _ ⟨by2, cy2, S2, by rw [e], by rw [← e]; exact hq1, hq2, by rw [← e]; exact hq3, rfl⟩ ?_
  rw [rgs_app]
  exact hS2.erase 1
theorem s_appL {ops : Array Oper} {Q : Exit → Act → World → Prop} {o : Oper} {rest : List Oper} {a : Act} {w W0 : World} {l m : List UInt8} {sv : Value} {Lr L : List Blk} {sp2 : List Value} {nb c2 : Nat} {x y : Operand}
    (hS : St W0 w ((nb, (m.map bv ++ sp2).toArray, 5) :: (Lr ++ L))) (hR : BL l sv Lr) (hm : l.length ≤ 100000 ∧ m.length ≤ 1000 ∧ 0 < m.length)
    (hw : Region.wanted o (yielded ops a.tmps) = true) (hop : o.op = .call { callee := .builtin .append, args := #[x, y], argTypes := #[76, 76] }) (hx : evO a x = some sv) (hy : evO a y = some (.slice (some ⟨nb, 0, none⟩) m.length c2))
    (hk : ∀ sv' Lr' w', BL (l ++ m) sv' Lr' → St W0 w' (Lr' ++ L) → wpList Try.prog ops Q rest (a.put o.dst sv') w') : wpList Try.prog ops Q (o :: rest) a w := by
  have hsrc : ∀ (w : World), blk w nb = some (.cells (m.map bv ++ sp2).toArray 5 (0, 0)) → ∀ j v, (m.map bv)[j]? = some v → w.cell? ((⟨nb, 0, none⟩ : Addr).add j) = some v := fun w hb => src_blk hb (fun j v h => by
    rw [Nat.zero_add]
    show (m.map bv ++ sp2)[j]? = some v
    rw [List.getElem?_append_left (List.getElem?_eq_some_iff.1 h).1]; exact h)
  rcases hR with ⟨rfl, rfl, rfl⟩ | ⟨g, c, sp, rfl, h1, h2, h3, rfl⟩
  · simp only [List.nil_append] at hS
    refine s_append0 Aa Ab hS hw hop hx hy (by infer_instance) (xs := m.map bv) (hsrc _ (hS.blk 0 rfl)) (by rw [List.length_map, Nat.mul_one]) (by unfold maxLen; omega) ?_
    intro by2 cy2 S2 w' hq1 hq2 hq3 hS2
    exact hk _ _ _ (.inr ⟨by2, cy2, S2, rfl, hq1, hq2, by rw [hq3, Nat.mul_one]; rfl, rfl⟩) (hS2.erase 1)
  · simp only [List.cons_append, List.nil_append] at hS
    refine s_append Aa Ab hS hw hop hx hy (by infer_instance) (by exact at_ 1 rfl) (olds := l.map bv) (spare := sp) (by rfl) (by rw [List.length_map, Nat.mul_one]) h1 (by rw [h3, Nat.mul_one]) (xs := m.map bv) (hsrc _ (hS.blk 0 rfl)) (by rw [List.length_map, Nat.mul_one]) (by intro x hx; obtain ⟨y, _, rfl⟩ := List.mem_map.1 hx; rfl) (by unfold maxLen at h2 ⊢; omega) rfl ?_
    intro by2 cy2 S2 w' hq1 hq2 hq3 hS2
    have e : l.length + m.length = (l ++ m).length := by rw [List.length_append]
    refine hk _ [_] _ (.inr ⟨by2, cy2, S2, by rw [e], by rw [← e]; exact hq1, hq2, by rw [← e, hq3, Nat.mul_one], rfl⟩) ?_
    rw [List.map_append]
    exact hS2.erase 1
theorem cell_preR {R : List UInt8} {sp : List Value} {idx : Nat} (h : idx < R.length) : ((R.map bv ++ sp).toArray)[idx]? = some (.int .u8 ((R.getD idx 0).toNat : Int)) := by
  have e : R.getD idx 0 = R[idx] := by rw [List.getD_eq_getElem?_getD, List.getElem?_eq_getElem h]; rfl
  rw [← Array.getElem?_toList, List.getElem?_append_left (by rw [List.length_map]; exact h), List.getElem?_map, List.getElem?_eq_getElem h, e]
  rfl
theorem put_next {wv : List UInt8} {k : Nat} (hk : k < wv.length) (hl : wv.length ≤ 128) : (bvs (wv.take k ++ zs (128 - k))).setIfInBounds k (.int .u8 ((wv.getD k 0).toNat : Int)) = bvs (wv.take (k + 1) ++ zs (128 - (k + 1))) := by
  rw [bvs_set]
  congr 1
  have e : zs (128 - k) = 0 :: zs (128 - (k + 1)) := by
    unfold zs
    rw [show 128 - k = (128 - (k + 1)) + 1 by omega, List.replicate_succ]
  rw [e, List.set_append_right _ _ (by rw [List.length_take]; omega), List.length_take, Nat.min_eq_left (by omega), Nat.sub_self, List.set_cons_zero, List.take_succ_eq_append_getElem hk, List.append_assoc, List.getD_eq_getElem?_getD, List.getElem?_eq_getElem hk]
  rfl
set_option maxRecDepth 100000 in
set_option maxHeartbeats 8000000 in
theorem noteRef_true (l : List Rg) (h t g : Int) (hG : goodR ⟨l, h, t, true, g⟩) (v : Value) (w0 : World) (hv : RegsAt w0 v l) :
    Calls Try.prog 24 #[.agg #[v, .int .i64 h, .int .i64 t, .bool true, .int .i64 g]] w0 fun e w' => e = .returned (.tuple #[.agg (bvs (cellR ⟨l, h, t, true, g⟩)), .bool true]) ∧ Below w0.heap.size w0 w' := by
  obtain ⟨p1, c1, rfl, _⟩ := hv.slice
  have h4 : l.length ≤ 4 := hG.1.1
  have hC := fun (w : World) hw => goodRef_any l h t g true (.slice p1 l.length c1) w hw (by omega)
  rw [decide_eq_true hG] at hC
  have hsz := numsR_sized hG
  have hbl := numsB_len hG
  have hnl := numsR_len ⟨l, h, t, true, g⟩
  obtain ⟨NP, hNP⟩ : ∃ NP, numsR ⟨l, h, t, true, g⟩ = NP := ⟨_, rfl⟩
  have hNP2 : [((8 : Int), g), (1, 1), (1, t), (1, (l.length : Int)), (8, wrap64 (h + 1))] ++ l.flatMap (fun y => [((8 : Int), y.1), (8, y.2)]) = NP := hNP
  have hcell : cellR ⟨l, h, t, true, g⟩ = bytesR NP ++ zs (128 - (bytesR NP).length) := by unfold cellR; rw [hNP]
  rw [hNP] at hsz hbl hnl
  dsimp only at hnl
  rw [hcell]
  clear hNP hcell hG
  have hS := St.start w0
  go_enter Try.func24, Try.ntmps24
  repeat' (first | ((with_reducible refine Ad ?_); first | ((first | refine Bn Aa ?_ | refine Bm Aa ?_ | refine Az Aa ?_ | refine Bf Aa Ab hS ?_ | refine Bi Aa Ab hS ?_ | refine Ag Aa ?_ | refine Af Aa ?_ | refine Bs Aa ?_ | refine Ao Aa ?_ | refine Bw Aa ?_ | refine Be Aa ?_ | refine Bg Aa ?_ | refine Bv Aa (fun hc => ?_) (fun hc => ?_) | refine Ah Aa ?_ | refine Bu Aa ?_ | refine Bj Aa ?_ | refine Bk Aa ?_) <;> refine Ac ?_) | ((first | refine Bh Aa Ab hS ?_ | refine Bt Aa Ab hS ?_ | refine Ba Aa Ab hS ?_ | refine Bd Aa Ab hS ?_); clear hS; intro b w hS; refine Ac ?_) | ((first | refine Av Aa Ab hS ?_ | refine Au Aa Ab hS ?_ | refine Bb Aa Ab hS ?_); clear hS; intro w hS; refine Ac ?_) | (refine Cb Aa Ab hS (hC _ (hv.below hS.below)) ?_; clear hS; intro w hS; refine Ac ?_) | (refine Stp.go Aa (by rfl) (by rfl) (r_addW (by rfl) (by rfl) (by rfl) rfl) ?_; refine Ac ?_) | (refine Bk Aa ?_ (hc := FillS.one (by rfl) (by rfl) (by decide) (by (try conv => lhs; simp only [List.set_cons_zero, List.set_cons_succ]); first | done | rfl) (FillS.one (by rfl) (by rfl) (by decide) (by (try conv => lhs; simp only [List.set_cons_zero, List.set_cons_succ]); first | done | rfl) (FillS.one (by rfl) (by rfl) (by decide) (by (try conv => lhs; simp only [List.set_cons_zero, List.set_cons_succ]); first | done | rfl) (FillS.one (by rfl) (by rfl) (by decide) (by (try conv => lhs; simp only [List.set_cons_zero, List.set_cons_succ]); first | done | rfl) (FillS.one (by rfl) (by rfl) (by decide) (by (try conv => lhs; simp only [List.set_cons_zero, List.set_cons_succ]); first | done | rfl) (FillS.one (by rfl) (by rfl) (by decide) (by (try conv => lhs; simp only [List.set_cons_zero, List.set_cons_succ]); first | done | rfl) (FillS.one (by rfl) (by rfl) (by decide) (by (try conv => lhs; simp only [List.set_cons_zero, List.set_cons_succ]); first | done | rfl) (FillS.one (by rfl) (by rfl) (by decide) (by (try conv => lhs; simp only [List.set_cons_zero, List.set_cons_succ]); first | done | rfl) (FillS.one (by rfl) (by rfl) (by decide) (by (try conv => lhs; simp only [List.set_cons_zero, List.set_cons_succ]); first | done | rfl) (FillS.one (by rfl) (by rfl) (by decide) (by (try conv => lhs; simp only [List.set_cons_zero, List.set_cons_succ]); first | done | rfl) FillS.nil)))))))))); refine Ac ?_)) | ((fail_if_success (with_reducible refine Ad ?_)); first | go_step | go_step3 | rw [Exit.noGoto_normal] | rw [Exit.noGoto_ret] | rw [Exit.noGoto_exit]))
  clear hC

  rename_i bx z1 br z2 z3 z4 z5 z6 z7
  go_loopw [5, 6] (fun u5 u6 wr => ∃ (k : Nat) (Lr : List Blk), k ≤ l.length ∧ u6 = .int .i64 (k : Int) ∧ NL ([((8 : Int), g), (1, 1), (1, t), (1, (l.length : Int)), (8, wrap64 (h + 1))] ++ (l.take k).flatMap (fun y => [((8 : Int), y.1), (8, y.2)])) u5 Lr ∧ St w0 wr (Lr ++ [(br, bvs (zs 128), 55), (bx, #[.slice p1 l.length c1, .int .i64 h, .int .i64 t, .bool true, .int .i64 g], 24)])) (fun _ u6 _ => l.length - (intOf u6).toNat)
  case atStart => exact ⟨0, [_], by omega, rfl, ⟨b, 10, [], rfl, Nat.le_refl _, by decide, rfl, rfl⟩, hS⟩
  case round =>
    obtain ⟨k, Lr, hk, rfl, hR, hS⟩ := hrel
    by_cases hlt : k < l.length
    · obtain ⟨rb, o, cs, ty, fr, rfl, hb, hcell⟩ := hv.open_ (by omega)
      have q1 := csz_reg hcell hlt
      have hcut := And.intro (who_cell hcell hlt) (key_cell hcell hlt)
      obtain ⟨⟨y1, y2⟩, hy⟩ : ∃ y, l.getD k (0, 0) = y := ⟨_, rfl⟩
      have hfn := flat_next hlt hy
      rw [hy] at hcut
      dsimp only at hcut hfn
      have hll : ([((8 : Int), g), (1, 1), (1, t), (1, (l.length : Int)), (8, wrap64 (h + 1))] ++ (l.take k).flatMap (fun y => [((8 : Int), y.1), (8, y.2)])).length ≤ 100 := by
        rw [List.length_append, pairs_len, List.length_take, List.length_cons, List.length_cons, List.length_cons, List.length_cons, List.length_cons, List.length_nil]
        omega
      obtain ⟨PP, hPP⟩ : ∃ PP, [((8 : Int), g), (1, 1), (1, t), (1, (l.length : Int)), (8, wrap64 (h + 1))] ++ (l.take k).flatMap (fun y => [((8 : Int), y.1), (8, y.2)]) = PP := ⟨_, rfl⟩
      rw [hPP] at hR hll
      obtain ⟨g1, cp, sp, rfl, k1, k2, k3, rfl⟩ := hR
      simp only [List.cons_append, List.nil_append] at hS
      repeat' (first | ((with_reducible refine Ad ?_); first | ((first | refine Bn Aa ?_ | refine Bm Aa ?_ | refine Az Aa ?_ | refine Bf Aa Ab hS ?_ | refine Bi Aa Ab hS ?_ | refine Ag Aa ?_ | refine Af Aa ?_ | refine Bs Aa ?_ | refine Ao Aa ?_ | refine Bw Aa ?_ | refine Be Aa ?_ | refine Bg Aa ?_ | refine Bv Aa (fun hc => ?_) (fun hc => ?_) | refine Ah Aa ?_ | refine Bu Aa ?_ | refine Bj Aa ?_ | refine Bk Aa ?_) <;> refine Ac ?_) | ((first | refine Bh Aa Ab hS ?_ | refine Bt Aa Ab hS ?_ | refine Ba Aa Ab hS ?_ | refine Bd Aa Ab hS ?_); clear hS; intro b w hS; refine Ac ?_) | ((first | refine Av Aa Ab hS ?_ | refine Au Aa Ab hS ?_ | refine Bb Aa Ab hS ?_); clear hS; intro w hS; refine Ac ?_)) | ((fail_if_success (with_reducible refine Ad ?_)); first | go_step | go_step3 | rw [Exit.noGoto_normal] | rw [Exit.noGoto_ret] | rw [Exit.noGoto_exit]))
      refine any_start [0, 1, 2, 3, 4, 5, 6, 7, 8, 9, 10, 11, 12, 13, 14, 15] (by kernel_rfl) (by kernel_rfl) ?_
      intro w hcq
      replace hS := hS.cls hcq
      clear hcq
      (refine any_pull 0 (by kernel_rfl) (by rfl) (by rfl) (by exact fun _ _ _ _ h => h) ?_; apply Exists.intro; refine ⟨fun C w' => ?_, ?_⟩; (focus (first | exact Dv)); refine wa_put ?_)
      (refine any_pull 1 (by kernel_rfl) (by rfl) (by rfl) (by exact fun _ _ _ _ h => h) ?_; apply Exists.intro; refine ⟨fun C w' => ?_, ?_⟩; (focus (first | exact Ch)); refine wa_put ?_)
      (refine any_pull 3 (by kernel_rfl) (by rfl) (by rfl) (by exact fun _ _ _ _ h => h) ?_; apply Exists.intro; refine ⟨fun C w' => ?_, ?_⟩; (focus (first | exact Dv)); refine wa_put ?_)
      (refine any_pull 7 (by kernel_rfl) (by rfl) (by rfl) (by exact fun _ _ _ _ h => h) ?_; apply Exists.intro; refine ⟨fun C w' => ?_, ?_⟩; (focus (first | exact Ch)); refine wa_put ?_)
      (refine any_pull 9 (by kernel_rfl) (by rfl) (by rfl) (by exact fun _ _ _ _ h => h) ?_; apply Exists.intro; refine ⟨fun C w' => ?_, ?_⟩; (focus (first | exact Dv)); refine wa_put ?_)
      refine any_turn2 2 8 (by kernel_rfl) (by rfl) (by rfl) ?_ ?_
      · repeat' (first | ((with_reducible refine Ad ?_); first | ((first | refine Bn Aa ?_ | refine Bf Aa Ab hS ?_ (hv := by first | rfl | exact Bl | (rw [Array.getElem?_toList]; first | exact hcut.1 | exact hcut.2)) | refine Dp Aa (by first | exact ((hS).far hb).1) ?_ (hv := by first | rfl | exact Bl | (rw [Array.getElem?_toList]; first | exact hcut.1 | exact hcut.2))) <;> refine Ac ?_)) | ((fail_if_success (with_reducible refine Ad ?_)); first | go_step | go_step3 | rw [Exit.noGoto_normal] | rw [Exit.noGoto_ret] | rw [Exit.noGoto_exit]))
        (refine any_pull 4 (by kernel_rfl) (by rfl) (by rfl) (by exact fun _ _ _ _ h => h) ?_; apply Exists.intro; refine ⟨fun C w' => ?_, ?_⟩; (focus (first | exact Ci | exact Cf)); refine wa_put ?_)
        (refine any_pull 5 (by kernel_rfl) (by rfl) (by rfl) (by exact fun _ _ _ _ h => h) ?_; apply Exists.intro; refine ⟨fun C w' => ?_, ?_⟩; (focus (first | exact Ch)); refine wa_put ?_)
        refine any_turn2 6 8 (by kernel_rfl) (by rfl) (by rfl) ?_ ?_
        · repeat' (first | ((with_reducible refine Ad ?_); first | ((first | refine Bn Aa ?_ | refine Bf Aa Ab hS ?_ (hv := by first | rfl | exact Bl | (rw [Array.getElem?_toList]; first | exact hcut.1 | exact hcut.2)) | refine Dp Aa (by first | exact ((hS).far hb).1) ?_ (hv := by first | rfl | exact Bl | (rw [Array.getElem?_toList]; first | exact hcut.1 | exact hcut.2))) <;> refine Ac ?_)) | ((fail_if_success (with_reducible refine Ad ?_)); first | go_step | go_step3 | rw [Exit.noGoto_normal] | rw [Exit.noGoto_ret] | rw [Exit.noGoto_exit]))
          refine any_turn 8 (by kernel_rfl) (by rfl) ?_
          repeat' (first | ((with_reducible refine Ad ?_); first | ((first | refine Bn Aa ?_ | refine Bf Aa Ab hS ?_ (hv := by first | rfl | exact Bl | (rw [Array.getElem?_toList]; first | exact hcut.1 | exact hcut.2)) | refine Dp Aa (by first | exact ((hS).far hb).1) ?_ (hv := by first | rfl | exact Bl | (rw [Array.getElem?_toList]; first | exact hcut.1 | exact hcut.2))) <;> refine Ac ?_)) | ((fail_if_success (with_reducible refine Ad ?_)); first | go_step | go_step3 | rw [Exit.noGoto_normal] | rw [Exit.noGoto_ret] | rw [Exit.noGoto_exit]))
          (refine any_pull 10 (by kernel_rfl) (by rfl) (by rfl) (by exact fun _ _ _ _ h => h) ?_; apply Exists.intro; refine ⟨fun C w' => ?_, ?_⟩; (focus (first | exact Ci | exact Cf)); refine wa_put ?_)
          (refine any_pull 11 (by kernel_rfl) (by rfl) (by rfl) (by exact fun _ _ _ _ h => h) ?_; apply Exists.intro; refine ⟨fun C w' => ?_, ?_⟩; (focus (first | exact Ch)); refine wa_put ?_)
          refine any_turn 12 (by kernel_rfl) (by rfl) ?_
          repeat' (first | ((with_reducible refine Ad ?_); first | ((first | refine Bn Aa ?_ | refine Bf Aa Ab hS ?_ (hv := by first | rfl | exact Bl | (rw [Array.getElem?_toList]; first | exact hcut.1 | exact hcut.2)) | refine Dp Aa (by first | exact ((hS).far hb).1) ?_ (hv := by first | rfl | exact Bl | (rw [Array.getElem?_toList]; first | exact hcut.1 | exact hcut.2))) <;> refine Ac ?_)) | ((fail_if_success (with_reducible refine Ad ?_)); first | go_step | go_step3 | rw [Exit.noGoto_normal] | rw [Exit.noGoto_ret] | rw [Exit.noGoto_exit]))
          refine any_turn 13 (by kernel_rfl) (by rfl) ?_
          repeat' (first | ((with_reducible refine Ad ?_); first | ((first | refine Bn Aa ?_ | refine Bk Aa ?_) <;> refine Ac ?_) | ((first | refine Ba Aa Ab hS ?_ | refine Bd Aa Ab hS ?_); clear hS; intro b w hS; refine Ac ?_)) | ((fail_if_success (with_reducible refine Ad ?_)); first | go_step | go_step3 | rw [Exit.noGoto_normal] | rw [Exit.noGoto_ret] | rw [Exit.noGoto_exit]))
          refine any_turn 14 (by kernel_rfl) (by rfl) ?_
          refine s_appN (L := [_, _]) (m := 2) (xs := [((8 : Int), y1), (8, y2)]) hS ⟨g1, cp, sp, rfl, k1, k2, k3, rfl⟩ (by omega) (by rfl) (by rfl) (by rfl) (by rfl) (by rfl) ?_
          intro sv' Lr' w' hR' hS'
          rw [← hPP, List.append_assoc, ← hfn] at hR'
          obtain ⟨g2, cp2, sp2, rfl, j1, j2, j3, rfl⟩ := hR'
          refine Ac ?_
          replace hS := hS'
          simp only [List.cons_append, List.nil_append] at hS
          clear hS'
          repeat' (first | ((with_reducible refine Ad ?_); first | ((first | refine Bn Aa ?_) <;> refine Ac ?_)) | ((fail_if_success (with_reducible refine Ad ?_)); first | go_step | go_step3 | rw [Exit.noGoto_normal] | rw [Exit.noGoto_ret] | rw [Exit.noGoto_exit]))
          refine any_turn 15 (by kernel_rfl) (by rfl) ?_
          repeat' (first | ((with_reducible refine Ad ?_); first | ((first | refine Bn Aa ?_ | refine Az Aa ?_) <;> refine Ac ?_)) | ((fail_if_success (with_reducible refine Ad ?_)); first | go_step | go_step3 | rw [Exit.noGoto_normal] | rw [Exit.noGoto_ret] | rw [Exit.noGoto_exit]))
          refine any_done (by kernel_rfl) ?_
          repeat' (first | ((with_reducible refine Ad ?_); first | ((first | refine Bn Aa ?_ | refine Bm Aa ?_ | refine Az Aa ?_ | refine Bf Aa Ab hS ?_ | refine Bi Aa Ab hS ?_ | refine Ag Aa ?_ | refine Af Aa ?_ | refine Bs Aa ?_ | refine Ao Aa ?_ | refine Bw Aa ?_ | refine Be Aa ?_ | refine Bg Aa ?_ | refine Bv Aa (fun hc => ?_) (fun hc => ?_) | refine Ah Aa ?_ | refine Bu Aa ?_ | refine Bj Aa ?_ | refine Bk Aa ?_) <;> refine Ac ?_) | ((first | refine Bh Aa Ab hS ?_ | refine Bt Aa Ab hS ?_ | refine Ba Aa Ab hS ?_ | refine Bd Aa Ab hS ?_); clear hS; intro b w hS; refine Ac ?_) | ((first | refine Av Aa Ab hS ?_ | refine Au Aa Ab hS ?_ | refine Bb Aa Ab hS ?_); clear hS; intro w hS; refine Ac ?_)) | ((fail_if_success (with_reducible refine Ad ?_)); first | go_step | go_step3 | rw [Exit.noGoto_normal] | rw [Exit.noGoto_ret] | rw [Exit.noGoto_exit]))
          go_roundw
          case rel => exact ⟨k + 1, [_], by omega, by push_cast; rfl, ⟨g2, cp2, sp2, rfl, j1, j2, j3, rfl⟩, hS⟩
          case measure => first | (simp [intOf]; done) | (simp [intOf]; omega)
        · repeat' (first | ((with_reducible refine Ad ?_); first | ((first | refine Bn Aa ?_ | refine Bf Aa Ab hS ?_ (hv := by first | rfl | exact Bl | (rw [Array.getElem?_toList]; first | exact hcut.1 | exact hcut.2)) | refine Dp Aa (by first | exact ((hS).far hb).1) ?_ (hv := by first | rfl | exact Bl | (rw [Array.getElem?_toList]; first | exact hcut.1 | exact hcut.2))) <;> refine Ac ?_)) | ((fail_if_success (with_reducible refine Ad ?_)); first | go_step | go_step3 | rw [Exit.noGoto_normal] | rw [Exit.noGoto_ret] | rw [Exit.noGoto_exit]))
          (refine any_pull 10 (by kernel_rfl) (by rfl) (by rfl) (by exact fun _ _ _ _ h => h) ?_; apply Exists.intro; refine ⟨fun C w' => ?_, ?_⟩; (focus (first | exact Ci | exact Cf)); refine wa_put ?_)
          (refine any_pull 11 (by kernel_rfl) (by rfl) (by rfl) (by exact fun _ _ _ _ h => h) ?_; apply Exists.intro; refine ⟨fun C w' => ?_, ?_⟩; (focus (first | exact Ch)); refine wa_put ?_)
          refine any_turn2 6 12 (by kernel_rfl) (by rfl) (by rfl) ?_ ?_
          · repeat' (first | ((with_reducible refine Ad ?_); first | ((first | refine Bn Aa ?_ | refine Bf Aa Ab hS ?_ (hv := by first | rfl | exact Bl | (rw [Array.getElem?_toList]; first | exact hcut.1 | exact hcut.2)) | refine Dp Aa (by first | exact ((hS).far hb).1) ?_ (hv := by first | rfl | exact Bl | (rw [Array.getElem?_toList]; first | exact hcut.1 | exact hcut.2))) <;> refine Ac ?_)) | ((fail_if_success (with_reducible refine Ad ?_)); first | go_step | go_step3 | rw [Exit.noGoto_normal] | rw [Exit.noGoto_ret] | rw [Exit.noGoto_exit]))
            refine any_turn 12 (by kernel_rfl) (by rfl) ?_
            repeat' (first | ((with_reducible refine Ad ?_); first | ((first | refine Bn Aa ?_ | refine Bf Aa Ab hS ?_ (hv := by first | rfl | exact Bl | (rw [Array.getElem?_toList]; first | exact hcut.1 | exact hcut.2)) | refine Dp Aa (by first | exact ((hS).far hb).1) ?_ (hv := by first | rfl | exact Bl | (rw [Array.getElem?_toList]; first | exact hcut.1 | exact hcut.2))) <;> refine Ac ?_)) | ((fail_if_success (with_reducible refine Ad ?_)); first | go_step | go_step3 | rw [Exit.noGoto_normal] | rw [Exit.noGoto_ret] | rw [Exit.noGoto_exit]))
            refine any_turn 13 (by kernel_rfl) (by rfl) ?_
            repeat' (first | ((with_reducible refine Ad ?_); first | ((first | refine Bn Aa ?_ | refine Bk Aa ?_) <;> refine Ac ?_) | ((first | refine Ba Aa Ab hS ?_ | refine Bd Aa Ab hS ?_); clear hS; intro b w hS; refine Ac ?_)) | ((fail_if_success (with_reducible refine Ad ?_)); first | go_step | go_step3 | rw [Exit.noGoto_normal] | rw [Exit.noGoto_ret] | rw [Exit.noGoto_exit]))
            refine any_turn 14 (by kernel_rfl) (by rfl) ?_
            refine s_appN (L := [_, _]) (m := 2) (xs := [((8 : Int), y1), (8, y2)]) hS ⟨g1, cp, sp, rfl, k1, k2, k3, rfl⟩ (by omega) (by rfl) (by rfl) (by rfl) (by rfl) (by rfl) ?_
            intro sv' Lr' w' hR' hS'
            rw [← hPP, List.append_assoc, ← hfn] at hR'
            obtain ⟨g2, cp2, sp2, rfl, j1, j2, j3, rfl⟩ := hR'
            refine Ac ?_
            replace hS := hS'
            simp only [List.cons_append, List.nil_append] at hS
            clear hS'
            repeat' (first | ((with_reducible refine Ad ?_); first | ((first | refine Bn Aa ?_) <;> refine Ac ?_)) | ((fail_if_success (with_reducible refine Ad ?_)); first | go_step | go_step3 | rw [Exit.noGoto_normal] | rw [Exit.noGoto_ret] | rw [Exit.noGoto_exit]))
            refine any_turn 15 (by kernel_rfl) (by rfl) ?_
            repeat' (first | ((with_reducible refine Ad ?_); first | ((first | refine Bn Aa ?_ | refine Az Aa ?_) <;> refine Ac ?_)) | ((fail_if_success (with_reducible refine Ad ?_)); first | go_step | go_step3 | rw [Exit.noGoto_normal] | rw [Exit.noGoto_ret] | rw [Exit.noGoto_exit]))
            refine any_done (by kernel_rfl) ?_
            repeat' (first | ((with_reducible refine Ad ?_); first | ((first | refine Bn Aa ?_ | refine Bm Aa ?_ | refine Az Aa ?_ | refine Bf Aa Ab hS ?_ | refine Bi Aa Ab hS ?_ | refine Ag Aa ?_ | refine Af Aa ?_ | refine Bs Aa ?_ | refine Ao Aa ?_ | refine Bw Aa ?_ | refine Be Aa ?_ | refine Bg Aa ?_ | refine Bv Aa (fun hc => ?_) (fun hc => ?_) | refine Ah Aa ?_ | refine Bu Aa ?_ | refine Bj Aa ?_ | refine Bk Aa ?_) <;> refine Ac ?_) | ((first | refine Bh Aa Ab hS ?_ | refine Bt Aa Ab hS ?_ | refine Ba Aa Ab hS ?_ | refine Bd Aa Ab hS ?_); clear hS; intro b w hS; refine Ac ?_) | ((first | refine Av Aa Ab hS ?_ | refine Au Aa Ab hS ?_ | refine Bb Aa Ab hS ?_); clear hS; intro w hS; refine Ac ?_)) | ((fail_if_success (with_reducible refine Ad ?_)); first | go_step | go_step3 | rw [Exit.noGoto_normal] | rw [Exit.noGoto_ret] | rw [Exit.noGoto_exit]))
            go_roundw
            case rel => exact ⟨k + 1, [_], by omega, by push_cast; rfl, ⟨g2, cp2, sp2, rfl, j1, j2, j3, rfl⟩, hS⟩
            case measure => first | (simp [intOf]; done) | (simp [intOf]; omega)
          · repeat' (first | ((with_reducible refine Ad ?_); first | ((first | refine Bn Aa ?_ | refine Bf Aa Ab hS ?_ (hv := by first | rfl | exact Bl | (rw [Array.getElem?_toList]; first | exact hcut.1 | exact hcut.2)) | refine Dp Aa (by first | exact ((hS).far hb).1) ?_ (hv := by first | rfl | exact Bl | (rw [Array.getElem?_toList]; first | exact hcut.1 | exact hcut.2))) <;> refine Ac ?_)) | ((fail_if_success (with_reducible refine Ad ?_)); first | go_step | go_step3 | rw [Exit.noGoto_normal] | rw [Exit.noGoto_ret] | rw [Exit.noGoto_exit]))
            refine any_turn 6 (by kernel_rfl) (by rfl) ?_
            repeat' (first | ((with_reducible refine Ad ?_); first | ((first | refine Bn Aa ?_ | refine Bf Aa Ab hS ?_ (hv := by first | rfl | exact Bl | (rw [Array.getElem?_toList]; first | exact hcut.1 | exact hcut.2)) | refine Dp Aa (by first | exact ((hS).far hb).1) ?_ (hv := by first | rfl | exact Bl | (rw [Array.getElem?_toList]; first | exact hcut.1 | exact hcut.2))) <;> refine Ac ?_)) | ((fail_if_success (with_reducible refine Ad ?_)); first | go_step | go_step3 | rw [Exit.noGoto_normal] | rw [Exit.noGoto_ret] | rw [Exit.noGoto_exit]))
            refine any_turn 13 (by kernel_rfl) (by rfl) ?_
            repeat' (first | ((with_reducible refine Ad ?_); first | ((first | refine Bn Aa ?_ | refine Bk Aa ?_) <;> refine Ac ?_) | ((first | refine Ba Aa Ab hS ?_ | refine Bd Aa Ab hS ?_); clear hS; intro b w hS; refine Ac ?_)) | ((fail_if_success (with_reducible refine Ad ?_)); first | go_step | go_step3 | rw [Exit.noGoto_normal] | rw [Exit.noGoto_ret] | rw [Exit.noGoto_exit]))
            refine any_turn 14 (by kernel_rfl) (by rfl) ?_
            refine s_appN (L := [_, _]) (m := 2) (xs := [((8 : Int), y1), (8, y2)]) hS ⟨g1, cp, sp, rfl, k1, k2, k3, rfl⟩ (by omega) (by rfl) (by rfl) (by rfl) (by rfl) (by rfl) ?_
            intro sv' Lr' w' hR' hS'
            rw [← hPP, List.append_assoc, ← hfn] at hR'
            obtain ⟨g2, cp2, sp2, rfl, j1, j2, j3, rfl⟩ := hR'
            refine Ac ?_
            replace hS := hS'
            simp only [List.cons_append, List.nil_append] at hS
            clear hS'
            repeat' (first | ((with_reducible refine Ad ?_); first | ((first | refine Bn Aa ?_) <;> refine Ac ?_)) | ((fail_if_success (with_reducible refine Ad ?_)); first | go_step | go_step3 | rw [Exit.noGoto_normal] | rw [Exit.noGoto_ret] | rw [Exit.noGoto_exit]))
            refine any_turn 15 (by kernel_rfl) (by rfl) ?_
            repeat' (first | ((with_reducible refine Ad ?_); first | ((first | refine Bn Aa ?_ | refine Az Aa ?_) <;> refine Ac ?_)) | ((fail_if_success (with_reducible refine Ad ?_)); first | go_step | go_step3 | rw [Exit.noGoto_normal] | rw [Exit.noGoto_ret] | rw [Exit.noGoto_exit]))
            refine any_done (by kernel_rfl) ?_
            repeat' (first | ((with_reducible refine Ad ?_); first | ((first | refine Bn Aa ?_ | refine Bm Aa ?_ | refine Az Aa ?_ | refine Bf Aa Ab hS ?_ | refine Bi Aa Ab hS ?_ | refine Ag Aa ?_ | refine Af Aa ?_ | refine Bs Aa ?_ | refine Ao Aa ?_ | refine Bw Aa ?_ | refine Be Aa ?_ | refine Bg Aa ?_ | refine Bv Aa (fun hc => ?_) (fun hc => ?_) | refine Ah Aa ?_ | refine Bu Aa ?_ | refine Bj Aa ?_ | refine Bk Aa ?_) <;> refine Ac ?_) | ((first | refine Bh Aa Ab hS ?_ | refine Bt Aa Ab hS ?_ | refine Ba Aa Ab hS ?_ | refine Bd Aa Ab hS ?_); clear hS; intro b w hS; refine Ac ?_) | ((first | refine Av Aa Ab hS ?_ | refine Au Aa Ab hS ?_ | refine Bb Aa Ab hS ?_); clear hS; intro w hS; refine Ac ?_)) | ((fail_if_success (with_reducible refine Ad ?_)); first | go_step | go_step3 | rw [Exit.noGoto_normal] | rw [Exit.noGoto_ret] | rw [Exit.noGoto_exit]))
            go_roundw
            case rel => exact ⟨k + 1, [_], by omega, by push_cast; rfl, ⟨g2, cp2, sp2, rfl, j1, j2, j3, rfl⟩, hS⟩
            case measure => first | (simp [intOf]; done) | (simp [intOf]; omega)
      · repeat' (first | ((with_reducible refine Ad ?_); first | ((first | refine Bn Aa ?_ | refine Bf Aa Ab hS ?_ (hv := by first | rfl | exact Bl | (rw [Array.getElem?_toList]; first | exact hcut.1 | exact hcut.2)) | refine Dp Aa (by first | exact ((hS).far hb).1) ?_ (hv := by first | rfl | exact Bl | (rw [Array.getElem?_toList]; first | exact hcut.1 | exact hcut.2))) <;> refine Ac ?_)) | ((fail_if_success (with_reducible refine Ad ?_)); first | go_step | go_step3 | rw [Exit.noGoto_normal] | rw [Exit.noGoto_ret] | rw [Exit.noGoto_exit]))
        (refine any_pull 10 (by kernel_rfl) (by rfl) (by rfl) (by exact fun _ _ _ _ h => h) ?_; apply Exists.intro; refine ⟨fun C w' => ?_, ?_⟩; (focus (first | exact Ci | exact Cf)); refine wa_put ?_)
        (refine any_pull 11 (by kernel_rfl) (by rfl) (by rfl) (by exact fun _ _ _ _ h => h) ?_; apply Exists.intro; refine ⟨fun C w' => ?_, ?_⟩; (focus (first | exact Ch)); refine wa_put ?_)
        refine any_turn2 2 12 (by kernel_rfl) (by rfl) (by rfl) ?_ ?_
        · repeat' (first | ((with_reducible refine Ad ?_); first | ((first | refine Bn Aa ?_ | refine Bf Aa Ab hS ?_ (hv := by first | rfl | exact Bl | (rw [Array.getElem?_toList]; first | exact hcut.1 | exact hcut.2)) | refine Dp Aa (by first | exact ((hS).far hb).1) ?_ (hv := by first | rfl | exact Bl | (rw [Array.getElem?_toList]; first | exact hcut.1 | exact hcut.2))) <;> refine Ac ?_)) | ((fail_if_success (with_reducible refine Ad ?_)); first | go_step | go_step3 | rw [Exit.noGoto_normal] | rw [Exit.noGoto_ret] | rw [Exit.noGoto_exit]))
          (refine any_pull 4 (by kernel_rfl) (by rfl) (by rfl) (by exact fun _ _ _ _ h => h) ?_; apply Exists.intro; refine ⟨fun C w' => ?_, ?_⟩; (focus (first | exact Ci | exact Cf)); refine wa_put ?_)
          (refine any_pull 5 (by kernel_rfl) (by rfl) (by rfl) (by exact fun _ _ _ _ h => h) ?_; apply Exists.intro; refine ⟨fun C w' => ?_, ?_⟩; (focus (first | exact Ch)); refine wa_put ?_)
          refine any_turn2 6 12 (by kernel_rfl) (by rfl) (by rfl) ?_ ?_
          · repeat' (first | ((with_reducible refine Ad ?_); first | ((first | refine Bn Aa ?_ | refine Bf Aa Ab hS ?_ (hv := by first | rfl | exact Bl | (rw [Array.getElem?_toList]; first | exact hcut.1 | exact hcut.2)) | refine Dp Aa (by first | exact ((hS).far hb).1) ?_ (hv := by first | rfl | exact Bl | (rw [Array.getElem?_toList]; first | exact hcut.1 | exact hcut.2))) <;> refine Ac ?_)) | ((fail_if_success (with_reducible refine Ad ?_)); first | go_step | go_step3 | rw [Exit.noGoto_normal] | rw [Exit.noGoto_ret] | rw [Exit.noGoto_exit]))
            refine any_turn 12 (by kernel_rfl) (by rfl) ?_
            repeat' (first | ((with_reducible refine Ad ?_); first | ((first | refine Bn Aa ?_ | refine Bf Aa Ab hS ?_ (hv := by first | rfl | exact Bl | (rw [Array.getElem?_toList]; first | exact hcut.1 | exact hcut.2)) | refine Dp Aa (by first | exact ((hS).far hb).1) ?_ (hv := by first | rfl | exact Bl | (rw [Array.getElem?_toList]; first | exact hcut.1 | exact hcut.2))) <;> refine Ac ?_)) | ((fail_if_success (with_reducible refine Ad ?_)); first | go_step | go_step3 | rw [Exit.noGoto_normal] | rw [Exit.noGoto_ret] | rw [Exit.noGoto_exit]))
            refine any_turn 13 (by kernel_rfl) (by rfl) ?_
            repeat' (first | ((with_reducible refine Ad ?_); first | ((first | refine Bn Aa ?_ | refine Bk Aa ?_) <;> refine Ac ?_) | ((first | refine Ba Aa Ab hS ?_ | refine Bd Aa Ab hS ?_); clear hS; intro b w hS; refine Ac ?_)) | ((fail_if_success (with_reducible refine Ad ?_)); first | go_step | go_step3 | rw [Exit.noGoto_normal] | rw [Exit.noGoto_ret] | rw [Exit.noGoto_exit]))
            refine any_turn 14 (by kernel_rfl) (by rfl) ?_
            refine s_appN (L := [_, _]) (m := 2) (xs := [((8 : Int), y1), (8, y2)]) hS ⟨g1, cp, sp, rfl, k1, k2, k3, rfl⟩ (by omega) (by rfl) (by rfl) (by rfl) (by rfl) (by rfl) ?_
            intro sv' Lr' w' hR' hS'
            rw [← hPP, List.append_assoc, ← hfn] at hR'
            obtain ⟨g2, cp2, sp2, rfl, j1, j2, j3, rfl⟩ := hR'
            refine Ac ?_
            replace hS := hS'
            simp only [List.cons_append, List.nil_append] at hS
            clear hS'
            repeat' (first | ((with_reducible refine Ad ?_); first | ((first | refine Bn Aa ?_) <;> refine Ac ?_)) | ((fail_if_success (with_reducible refine Ad ?_)); first | go_step | go_step3 | rw [Exit.noGoto_normal] | rw [Exit.noGoto_ret] | rw [Exit.noGoto_exit]))
            refine any_turn 15 (by kernel_rfl) (by rfl) ?_
            repeat' (first | ((with_reducible refine Ad ?_); first | ((first | refine Bn Aa ?_ | refine Az Aa ?_) <;> refine Ac ?_)) | ((fail_if_success (with_reducible refine Ad ?_)); first | go_step | go_step3 | rw [Exit.noGoto_normal] | rw [Exit.noGoto_ret] | rw [Exit.noGoto_exit]))
            refine any_done (by kernel_rfl) ?_
            repeat' (first | ((with_reducible refine Ad ?_); first | ((first | refine Bn Aa ?_ | refine Bm Aa ?_ | refine Az Aa ?_ | refine Bf Aa Ab hS ?_ | refine Bi Aa Ab hS ?_ | refine Ag Aa ?_ | refine Af Aa ?_ | refine Bs Aa ?_ | refine Ao Aa ?_ | refine Bw Aa ?_ | refine Be Aa ?_ | refine Bg Aa ?_ | refine Bv Aa (fun hc => ?_) (fun hc => ?_) | refine Ah Aa ?_ | refine Bu Aa ?_ | refine Bj Aa ?_ | refine Bk Aa ?_) <;> refine Ac ?_) | ((first | refine Bh Aa Ab hS ?_ | refine Bt Aa Ab hS ?_ | refine Ba Aa Ab hS ?_ | refine Bd Aa Ab hS ?_); clear hS; intro b w hS; refine Ac ?_) | ((first | refine Av Aa Ab hS ?_ | refine Au Aa Ab hS ?_ | refine Bb Aa Ab hS ?_); clear hS; intro w hS; refine Ac ?_)) | ((fail_if_success (with_reducible refine Ad ?_)); first | go_step | go_step3 | rw [Exit.noGoto_normal] | rw [Exit.noGoto_ret] | rw [Exit.noGoto_exit]))
            go_roundw
            case rel => exact ⟨k + 1, [_], by omega, by push_cast; rfl, ⟨g2, cp2, sp2, rfl, j1, j2, j3, rfl⟩, hS⟩
            case measure => first | (simp [intOf]; done) | (simp [intOf]; omega)
          · repeat' (first | ((with_reducible refine Ad ?_); first | ((first | refine Bn Aa ?_ | refine Bf Aa Ab hS ?_ (hv := by first | rfl | exact Bl | (rw [Array.getElem?_toList]; first | exact hcut.1 | exact hcut.2)) | refine Dp Aa (by first | exact ((hS).far hb).1) ?_ (hv := by first | rfl | exact Bl | (rw [Array.getElem?_toList]; first | exact hcut.1 | exact hcut.2))) <;> refine Ac ?_)) | ((fail_if_success (with_reducible refine Ad ?_)); first | go_step | go_step3 | rw [Exit.noGoto_normal] | rw [Exit.noGoto_ret] | rw [Exit.noGoto_exit]))
            refine any_turn 6 (by kernel_rfl) (by rfl) ?_
            repeat' (first | ((with_reducible refine Ad ?_); first | ((first | refine Bn Aa ?_ | refine Bf Aa Ab hS ?_ (hv := by first | rfl | exact Bl | (rw [Array.getElem?_toList]; first | exact hcut.1 | exact hcut.2)) | refine Dp Aa (by first | exact ((hS).far hb).1) ?_ (hv := by first | rfl | exact Bl | (rw [Array.getElem?_toList]; first | exact hcut.1 | exact hcut.2))) <;> refine Ac ?_)) | ((fail_if_success (with_reducible refine Ad ?_)); first | go_step | go_step3 | rw [Exit.noGoto_normal] | rw [Exit.noGoto_ret] | rw [Exit.noGoto_exit]))
            refine any_turn 13 (by kernel_rfl) (by rfl) ?_
            repeat' (first | ((with_reducible refine Ad ?_); first | ((first | refine Bn Aa ?_ | refine Bk Aa ?_) <;> refine Ac ?_) | ((first | refine Ba Aa Ab hS ?_ | refine Bd Aa Ab hS ?_); clear hS; intro b w hS; refine Ac ?_)) | ((fail_if_success (with_reducible refine Ad ?_)); first | go_step | go_step3 | rw [Exit.noGoto_normal] | rw [Exit.noGoto_ret] | rw [Exit.noGoto_exit]))
            refine any_turn 14 (by kernel_rfl) (by rfl) ?_
            refine s_appN (L := [_, _]) (m := 2) (xs := [((8 : Int), y1), (8, y2)]) hS ⟨g1, cp, sp, rfl, k1, k2, k3, rfl⟩ (by omega) (by rfl) (by rfl) (by rfl) (by rfl) (by rfl) ?_
            intro sv' Lr' w' hR' hS'
            rw [← hPP, List.append_assoc, ← hfn] at hR'
            obtain ⟨g2, cp2, sp2, rfl, j1, j2, j3, rfl⟩ := hR'
            refine Ac ?_
            replace hS := hS'
            simp only [List.cons_append, List.nil_append] at hS
            clear hS'
            repeat' (first | ((with_reducible refine Ad ?_); first | ((first | refine Bn Aa ?_) <;> refine Ac ?_)) | ((fail_if_success (with_reducible refine Ad ?_)); first | go_step | go_step3 | rw [Exit.noGoto_normal] | rw [Exit.noGoto_ret] | rw [Exit.noGoto_exit]))
            refine any_turn 15 (by kernel_rfl) (by rfl) ?_
            repeat' (first | ((with_reducible refine Ad ?_); first | ((first | refine Bn Aa ?_ | refine Az Aa ?_) <;> refine Ac ?_)) | ((fail_if_success (with_reducible refine Ad ?_)); first | go_step | go_step3 | rw [Exit.noGoto_normal] | rw [Exit.noGoto_ret] | rw [Exit.noGoto_exit]))
            refine any_done (by kernel_rfl) ?_
            repeat' (first | ((with_reducible refine Ad ?_); first | ((first | refine Bn Aa ?_ | refine Bm Aa ?_ | refine Az Aa ?_ | refine Bf Aa Ab hS ?_ | refine Bi Aa Ab hS ?_ | refine Ag Aa ?_ | refine Af Aa ?_ | refine Bs Aa ?_ | refine Ao Aa ?_ | refine Bw Aa ?_ | refine Be Aa ?_ | refine Bg Aa ?_ | refine Bv Aa (fun hc => ?_) (fun hc => ?_) | refine Ah Aa ?_ | refine Bu Aa ?_ | refine Bj Aa ?_ | refine Bk Aa ?_) <;> refine Ac ?_) | ((first | refine Bh Aa Ab hS ?_ | refine Bt Aa Ab hS ?_ | refine Ba Aa Ab hS ?_ | refine Bd Aa Ab hS ?_); clear hS; intro b w hS; refine Ac ?_) | ((first | refine Av Aa Ab hS ?_ | refine Au Aa Ab hS ?_ | refine Bb Aa Ab hS ?_); clear hS; intro w hS; refine Ac ?_)) | ((fail_if_success (with_reducible refine Ad ?_)); first | go_step | go_step3 | rw [Exit.noGoto_normal] | rw [Exit.noGoto_ret] | rw [Exit.noGoto_exit]))
            go_roundw
            case rel => exact ⟨k + 1, [_], by omega, by push_cast; rfl, ⟨g2, cp2, sp2, rfl, j1, j2, j3, rfl⟩, hS⟩
            case measure => first | (simp [intOf]; done) | (simp [intOf]; omega)
        · repeat' (first | ((with_reducible refine Ad ?_); first | ((first | refine Bn Aa ?_ | refine Bf Aa Ab hS ?_ (hv := by first | rfl | exact Bl | (rw [Array.getElem?_toList]; first | exact hcut.1 | exact hcut.2)) | refine Dp Aa (by first | exact ((hS).far hb).1) ?_ (hv := by first | rfl | exact Bl | (rw [Array.getElem?_toList]; first | exact hcut.1 | exact hcut.2))) <;> refine Ac ?_)) | ((fail_if_success (with_reducible refine Ad ?_)); first | go_step | go_step3 | rw [Exit.noGoto_normal] | rw [Exit.noGoto_ret] | rw [Exit.noGoto_exit]))
          refine any_turn 2 (by kernel_rfl) (by rfl) ?_
          repeat' (first | ((with_reducible refine Ad ?_); first | ((first | refine Bn Aa ?_ | refine Bf Aa Ab hS ?_ (hv := by first | rfl | exact Bl | (rw [Array.getElem?_toList]; first | exact hcut.1 | exact hcut.2)) | refine Dp Aa (by first | exact ((hS).far hb).1) ?_ (hv := by first | rfl | exact Bl | (rw [Array.getElem?_toList]; first | exact hcut.1 | exact hcut.2))) <;> refine Ac ?_)) | ((fail_if_success (with_reducible refine Ad ?_)); first | go_step | go_step3 | rw [Exit.noGoto_normal] | rw [Exit.noGoto_ret] | rw [Exit.noGoto_exit]))
          (refine any_pull 4 (by kernel_rfl) (by rfl) (by rfl) (by exact fun _ _ _ _ h => h) ?_; apply Exists.intro; refine ⟨fun C w' => ?_, ?_⟩; (focus (first | exact Ci | exact Cf)); refine wa_put ?_)
          (refine any_pull 5 (by kernel_rfl) (by rfl) (by rfl) (by exact fun _ _ _ _ h => h) ?_; apply Exists.intro; refine ⟨fun C w' => ?_, ?_⟩; (focus (first | exact Ch)); refine wa_put ?_)
          refine any_turn 6 (by kernel_rfl) (by rfl) ?_
          repeat' (first | ((with_reducible refine Ad ?_); first | ((first | refine Bn Aa ?_ | refine Bf Aa Ab hS ?_ (hv := by first | rfl | exact Bl | (rw [Array.getElem?_toList]; first | exact hcut.1 | exact hcut.2)) | refine Dp Aa (by first | exact ((hS).far hb).1) ?_ (hv := by first | rfl | exact Bl | (rw [Array.getElem?_toList]; first | exact hcut.1 | exact hcut.2))) <;> refine Ac ?_)) | ((fail_if_success (with_reducible refine Ad ?_)); first | go_step | go_step3 | rw [Exit.noGoto_normal] | rw [Exit.noGoto_ret] | rw [Exit.noGoto_exit]))
          refine any_turn 13 (by kernel_rfl) (by rfl) ?_
          repeat' (first | ((with_reducible refine Ad ?_); first | ((first | refine Bn Aa ?_ | refine Bk Aa ?_) <;> refine Ac ?_) | ((first | refine Ba Aa Ab hS ?_ | refine Bd Aa Ab hS ?_); clear hS; intro b w hS; refine Ac ?_)) | ((fail_if_success (with_reducible refine Ad ?_)); first | go_step | go_step3 | rw [Exit.noGoto_normal] | rw [Exit.noGoto_ret] | rw [Exit.noGoto_exit]))
          refine any_turn 14 (by kernel_rfl) (by rfl) ?_
          refine s_appN (L := [_, _]) (m := 2) (xs := [((8 : Int), y1), (8, y2)]) hS ⟨g1, cp, sp, rfl, k1, k2, k3, rfl⟩ (by omega) (by rfl) (by rfl) (by rfl) (by rfl) (by rfl) ?_
          intro sv' Lr' w' hR' hS'
          rw [← hPP, List.append_assoc, ← hfn] at hR'
          obtain ⟨g2, cp2, sp2, rfl, j1, j2, j3, rfl⟩ := hR'
          refine Ac ?_
          replace hS := hS'
          simp only [List.cons_append, List.nil_append] at hS
          clear hS'
          repeat' (first | ((with_reducible refine Ad ?_); first | ((first | refine Bn Aa ?_) <;> refine Ac ?_)) | ((fail_if_success (with_reducible refine Ad ?_)); first | go_step | go_step3 | rw [Exit.noGoto_normal] | rw [Exit.noGoto_ret] | rw [Exit.noGoto_exit]))
          refine any_turn 15 (by kernel_rfl) (by rfl) ?_
          repeat' (first | ((with_reducible refine Ad ?_); first | ((first | refine Bn Aa ?_ | refine Az Aa ?_) <;> refine Ac ?_)) | ((fail_if_success (with_reducible refine Ad ?_)); first | go_step | go_step3 | rw [Exit.noGoto_normal] | rw [Exit.noGoto_ret] | rw [Exit.noGoto_exit]))
          refine any_done (by kernel_rfl) ?_
          repeat' (first | ((with_reducible refine Ad ?_); first | ((first | refine Bn Aa ?_ | refine Bm Aa ?_ | refine Az Aa ?_ | refine Bf Aa Ab hS ?_ | refine Bi Aa Ab hS ?_ | refine Ag Aa ?_ | refine Af Aa ?_ | refine Bs Aa ?_ | refine Ao Aa ?_ | refine Bw Aa ?_ | refine Be Aa ?_ | refine Bg Aa ?_ | refine Bv Aa (fun hc => ?_) (fun hc => ?_) | refine Ah Aa ?_ | refine Bu Aa ?_ | refine Bj Aa ?_ | refine Bk Aa ?_) <;> refine Ac ?_) | ((first | refine Bh Aa Ab hS ?_ | refine Bt Aa Ab hS ?_ | refine Ba Aa Ab hS ?_ | refine Bd Aa Ab hS ?_); clear hS; intro b w hS; refine Ac ?_) | ((first | refine Av Aa Ab hS ?_ | refine Au Aa Ab hS ?_ | refine Bb Aa Ab hS ?_); clear hS; intro w hS; refine Ac ?_)) | ((fail_if_success (with_reducible refine Ad ?_)); first | go_step | go_step3 | rw [Exit.noGoto_normal] | rw [Exit.noGoto_ret] | rw [Exit.noGoto_exit]))
          go_roundw
          case rel => exact ⟨k + 1, [_], by omega, by push_cast; rfl, ⟨g2, cp2, sp2, rfl, j1, j2, j3, rfl⟩, hS⟩
          case measure => first | (simp [intOf]; done) | (simp [intOf]; omega)
    · obtain rfl : k = l.length := by omega
      rw [List.take_length, hNP2] at hR
      clear hNP2 hv
      obtain ⟨gl, cp, sp, rfl, k1, k2, k3, rfl⟩ := hR
      simp only [List.cons_append, List.nil_append] at hS
      repeat' (first | ((with_reducible refine Ad ?_); first | ((first | refine Bn Aa ?_ | refine Bm Aa ?_ | refine Az Aa ?_ | refine Bf Aa Ab hS ?_ | refine Bi Aa Ab hS ?_ | refine Ag Aa ?_ | refine Af Aa ?_ | refine Bs Aa ?_ | refine Ao Aa ?_ | refine Bw Aa ?_ | refine Be Aa ?_ | refine Bg Aa ?_ | refine Bv Aa (fun hc => ?_) (fun hc => ?_) | refine Ah Aa ?_ | refine Bu Aa ?_ | refine Bj Aa ?_ | refine Bk Aa ?_) <;> refine Ac ?_) | ((first | refine Bh Aa Ab hS ?_ | refine Bt Aa Ab hS ?_ | refine Ba Aa Ab hS ?_ | refine Bd Aa Ab hS ?_); clear hS; intro b w hS; refine Ac ?_) | ((first | refine Av Aa Ab hS ?_ | refine Au Aa Ab hS ?_ | refine Bb Aa Ab hS ?_); clear hS; intro w hS; refine Ac ?_)) | ((fail_if_success (with_reducible refine Ad ?_)); first | go_step | go_step3 | rw [Exit.noGoto_normal] | rw [Exit.noGoto_ret] | rw [Exit.noGoto_exit]))
      replace hS := hS.take 2
      simp only [List.take_succ_cons, List.take_zero] at hS
      go_loopw [4, 7, 8, 9] (fun u4 u7 u8 u9 wr => ∃ (k : Nat) (Lb : List Blk), k ≤ NP.length ∧ u7 = .int .i64 ((2 * k : Nat) : Int) ∧ BL (bytesR (NP.take k)) u4 Lb ∧ St w0 wr ((gl, (rgs NP ++ sp).toArray, 3) :: (br, bvs (zs 128), 55) :: Lb)) (fun _ u7 _ _ _ => 2 * NP.length - (intOf u7).toNat)
      case atStart => exact ⟨0, [], by omega, rfl, .inl ⟨rfl, rfl, rfl⟩, hS⟩
      case round =>
        obtain ⟨k, Lb, hk, rfl, hB, hS⟩ := hrel
        have hbn : (bytesR (NP.take k)).length ≤ 1000 := by
          have h1 := bytesR_len (l := NP.take k) fun p hp => hsz p (List.mem_of_mem_take hp)
          rw [List.length_take] at h1
          omega
        by_cases hlt : k < NP.length
        · have hcell := pair_cells NP sp
          have q1 := csz_reg hcell hlt
          have hc1 := who_cell hcell hlt
          have hc2 := key_cell hcell hlt
          have hsk := hsz _ (by rw [List.getD_eq_getElem?_getD, List.getElem?_eq_getElem hlt]; exact List.getElem_mem hlt : NP.getD k (0, 0) ∈ NP)
          obtain ⟨⟨y1, y2⟩, hy⟩ : ∃ y, NP.getD k (0, 0) = y := ⟨_, rfl⟩
          have hbx := bytes_next hlt hy
          rw [hy] at hc1 hc2 hsk
          dsimp only at hc1 hc2 hbx
          rw [Nat.zero_add, Nat.mul_comm k 2] at q1 hc1 hc2
          have hrl := rgs_len NP
          rcases hsk with e1 | ⟨e1, e2, e3⟩
          · dsimp only at e1
            subst e1
            rw [show beB (u64W y2) ((8 : Int).toNat) = beB (u64W y2) 8 from rfl] at hbx
            obtain ⟨p7, c7, rfl⟩ := hB.slice
            repeat' (first | ((with_reducible refine Ad ?_); first | ((first | refine Bn Aa ?_ | refine Bm Aa ?_ | refine Az Aa ?_ | refine Bf Aa Ab hS ?_ | refine Bi Aa Ab hS ?_ | refine Ag Aa ?_ | refine Af Aa ?_ | refine Bs Aa ?_ | refine Ao Aa ?_ | refine Bw Aa ?_ | refine Be Aa ?_ | refine Bg Aa ?_ | refine Bv Aa (fun hc => ?_) (fun hc => ?_) | refine Ah Aa ?_ | refine Bu Aa ?_ | refine Bj Aa ?_ | refine Bk Aa ?_) <;> refine Ac ?_) | ((first | refine Bh Aa Ab hS ?_ | refine Bt Aa Ab hS ?_ | refine Ba Aa Ab hS ?_ | refine Bd Aa Ab hS ?_); clear hS; intro b w hS; refine Ac ?_) | ((first | refine Av Aa Ab hS ?_ | refine Au Aa Ab hS ?_ | refine Bb Aa Ab hS ?_); clear hS; intro w hS; refine Ac ?_)) | ((fail_if_success (with_reducible refine Ad ?_)); first | go_step | go_step3 | rw [Exit.noGoto_normal] | rw [Exit.noGoto_ret] | rw [Exit.noGoto_exit]))
            refine any_start [0, 1, 2, 3, 4, 5, 6, 7, 8, 9, 10, 11, 12, 13, 14] (by kernel_rfl) (by kernel_rfl) ?_
            intro w hcq
            replace hS := hS.cls hcq
            clear hcq
            (refine any_pull 0 (by kernel_rfl) (by rfl) (by rfl) (by exact fun _ _ _ _ h => h) ?_; apply Exists.intro; refine ⟨fun C w' => ?_, ?_⟩; (focus (first | exact Dv)); refine wa_put ?_)
            (refine any_pull 1 (by kernel_rfl) (by rfl) (by rfl) (by exact fun _ _ _ _ h => h) ?_; apply Exists.intro; refine ⟨fun C w' => ?_, ?_⟩; (focus (first | exact Dv)); refine wa_put ?_)
            (refine any_pull 2 (by kernel_rfl) (by rfl) (by rfl) (by exact fun _ _ _ _ h => h) ?_; apply Exists.intro; refine ⟨fun C w' => ?_, ?_⟩; (focus (first | exact Ci | exact Cf)); refine wa_put ?_)
            (refine any_pull 4 (by kernel_rfl) (by rfl) (by rfl) (by exact fun _ _ _ _ h => h) ?_; apply Exists.intro; refine ⟨fun C w' => ?_, ?_⟩; (focus (first | exact Dv)); refine wa_put ?_)
            (refine any_pull 5 (by kernel_rfl) (by rfl) (by rfl) (by exact fun _ _ _ _ h => h) ?_; apply Exists.intro; refine ⟨fun C w' => ?_, ?_⟩; (focus (first | exact Dv)); refine wa_put ?_)
            (refine any_pull 6 (by kernel_rfl) (by rfl) (by rfl) (by exact fun _ _ _ _ h => h) ?_; apply Exists.intro; refine ⟨fun C w' => ?_, ?_⟩; (focus (first | exact Dy)); refine wa_put ?_)
            (refine any_pull 7 (by kernel_rfl) (by rfl) (by rfl) (by exact fun _ _ _ _ h => h) ?_; apply Exists.intro; refine ⟨fun C w' => ?_, ?_⟩; (focus (first | exact Ci | exact Cf)); refine wa_put ?_)
            refine any_turn2 3 8 (by kernel_rfl) (by rfl) (by rfl) ?_ ?_
            · repeat' (first | ((with_reducible refine Ad ?_); first | ((first | refine Bn Aa ?_ | refine Bf Aa Ab hS ?_ (hv := by first | rfl | exact Bl | (rw [Array.getElem?_toList]; first | exact hc1 | exact hc2))) <;> refine Ac ?_)) | ((fail_if_success (with_reducible refine Ad ?_)); first | go_step | go_step3 | rw [Exit.noGoto_normal] | rw [Exit.noGoto_ret] | rw [Exit.noGoto_exit]))
              refine any_turn 8 (by kernel_rfl) (by rfl) ?_
              repeat' (first | ((with_reducible refine Ad ?_); first | ((first | refine Bn Aa ?_ | refine Bf Aa Ab hS ?_ (hv := by first | rfl | exact Bl | (rw [Array.getElem?_toList]; first | exact hc1 | exact hc2))) <;> refine Ac ?_)) | ((fail_if_success (with_reducible refine Ad ?_)); first | go_step | go_step3 | rw [Exit.noGoto_normal] | rw [Exit.noGoto_ret] | rw [Exit.noGoto_exit]))
              refine any_turn 9 (by kernel_rfl) (by rfl) ?_
              refine s_call Aa (by rfl) (by rfl) (by rfl) (by rfl) (by rfl) (by infer_instance) (num_8 y2 _) ?_
              rintro e w2 ⟨sv2, rfl, ho, hBe⟩
              obtain ⟨p8, c8, rfl⟩ := ho.slice
              refine ⟨_, rfl, ?_⟩
              refine Ac ?_
              obtain ⟨Lb2, hB2, hS2⟩ := ho.join hS hBe
              replace hS := hS2
              clear hS2 ho hBe
              repeat' (first | ((with_reducible refine Ad ?_); first | ((first | refine Bn Aa ?_) <;> refine Ac ?_)) | ((fail_if_success (with_reducible refine Ad ?_)); first | go_step | go_step3 | rw [Exit.noGoto_normal] | rw [Exit.noGoto_ret] | rw [Exit.noGoto_exit]))
              (refine any_pull 10 (by kernel_rfl) (by rfl) (by rfl) (by exact fun _ _ _ _ h => h) ?_; apply Exists.intro; refine ⟨fun C w' => ?_, ?_⟩; (focus (first | exact Dv)); refine wa_put ?_)
              (refine any_pull 11 (by kernel_rfl) (by rfl) (by rfl) (by exact fun _ _ _ _ h => h) ?_; apply Exists.intro; refine ⟨fun C w' => ?_, ?_⟩; (focus (first | exact Co)); refine wa_put ?_)
              (refine any_pull 12 (by kernel_rfl) (by rfl) (by rfl) (by exact fun _ _ _ _ h => h) ?_; apply Exists.intro; refine ⟨fun C w' => ?_, ?_⟩; (focus (first | exact Co)); refine wa_put ?_)
              (refine any_pull 13 (by kernel_rfl) (by rfl) (by rfl) (by exact fun _ _ _ _ h => h) ?_; apply Exists.intro; refine ⟨fun C w' => ?_, ?_⟩; (focus (first | exact Cz)); refine wa_put ?_)
              (refine any_pull 14 (by kernel_rfl) (by rfl) (by rfl) (by exact fun _ _ _ _ h => h) ?_; apply Exists.intro; refine ⟨fun C w' => ?_, ?_⟩; (focus (first | exact Cz)); refine wa_put ?_)
              refine any_done (by kernel_rfl) ?_
              repeat' (first | ((with_reducible refine Ad ?_); first | ((first | refine Bn Aa ?_ | refine Bm Aa ?_ | refine Az Aa ?_ | refine Bf Aa Ab hS ?_ | refine Bi Aa Ab hS ?_ | refine Ag Aa ?_ | refine Af Aa ?_ | refine Bs Aa ?_ | refine Ao Aa ?_ | refine Bw Aa ?_ | refine Be Aa ?_ | refine Bg Aa ?_ | refine Bv Aa (fun hc => ?_) (fun hc => ?_) | refine Ah Aa ?_ | refine Bu Aa ?_ | refine Bj Aa ?_ | refine Bk Aa ?_) <;> refine Ac ?_) | ((first | refine Bh Aa Ab hS ?_ | refine Bt Aa Ab hS ?_ | refine Ba Aa Ab hS ?_ | refine Bd Aa Ab hS ?_); clear hS; intro b w hS; refine Ac ?_) | ((first | refine Av Aa Ab hS ?_ | refine Au Aa Ab hS ?_ | refine Bb Aa Ab hS ?_); clear hS; intro w hS; refine Ac ?_)) | ((fail_if_success (with_reducible refine Ad ?_)); first | go_step | go_step3 | rw [Exit.noGoto_normal] | rw [Exit.noGoto_ret] | rw [Exit.noGoto_exit]))
              rcases hB2 with ⟨_, e0, _⟩ | ⟨gn, cn, spn, en, n1, n2, n3, rfl⟩
              · exact absurd (congrArg List.length e0) (by rw [beB_len]; simp)
              simp only [Value.slice.injEq, true_and] at en
              obtain ⟨rfl, rfl⟩ := en
              simp only [List.cons_append, List.nil_append] at hS
              refine s_appL (L := [_, _]) (hS.perm (.cons _ (List.perm_append_comm (l₁ := [_, _])))) hB ⟨by omega, by rw [beB_len]; omega, by rw [beB_len]; omega⟩ (by rfl) (by rfl) (by rfl) (by rfl) ?_
              intro sv' Lr' w' hB' hS'
              rw [← hbx] at hB'
              obtain ⟨p9, c9, rfl⟩ := hB'.slice
              refine Ac ?_
              replace hS := St.perm hS' (List.perm_append_comm (l₂ := [_, _]))
              simp only [List.cons_append, List.nil_append] at hS
              clear hS'
              repeat' (first | ((with_reducible refine Ad ?_); first | ((first | refine Bn Aa ?_ | refine Bm Aa ?_ | refine Az Aa ?_ | refine Bf Aa Ab hS ?_ | refine Bi Aa Ab hS ?_ | refine Ag Aa ?_ | refine Af Aa ?_ | refine Bs Aa ?_ | refine Ao Aa ?_ | refine Bw Aa ?_ | refine Be Aa ?_ | refine Bg Aa ?_ | refine Bv Aa (fun hc => ?_) (fun hc => ?_) | refine Ah Aa ?_ | refine Bu Aa ?_ | refine Bj Aa ?_ | refine Bk Aa ?_) <;> refine Ac ?_) | ((first | refine Bh Aa Ab hS ?_ | refine Bt Aa Ab hS ?_ | refine Ba Aa Ab hS ?_ | refine Bd Aa Ab hS ?_); clear hS; intro b w hS; refine Ac ?_) | ((first | refine Av Aa Ab hS ?_ | refine Au Aa Ab hS ?_ | refine Bb Aa Ab hS ?_); clear hS; intro w hS; refine Ac ?_)) | ((fail_if_success (with_reducible refine Ad ?_)); first | go_step | go_step3 | rw [Exit.noGoto_normal] | rw [Exit.noGoto_ret] | rw [Exit.noGoto_exit]))
              go_roundw
              case rel => exact ⟨k + 1, Lr', by omega, by push_cast; rfl, hB', hS⟩
              case measure => first | (simp [intOf]; done) | (simp [intOf]; omega)
            · repeat' (first | ((with_reducible refine Ad ?_); first | ((first | refine Bn Aa ?_ | refine Bf Aa Ab hS ?_ (hv := by first | rfl | exact Bl | (rw [Array.getElem?_toList]; first | exact hc1 | exact hc2))) <;> refine Ac ?_)) | ((fail_if_success (with_reducible refine Ad ?_)); first | go_step | go_step3 | rw [Exit.noGoto_normal] | rw [Exit.noGoto_ret] | rw [Exit.noGoto_exit]))
              refine any_turn 3 (by kernel_rfl) (by rfl) ?_
              repeat' (first | ((with_reducible refine Ad ?_); first | ((first | refine Bn Aa ?_ | refine Bf Aa Ab hS ?_ (hv := by first | rfl | exact Bl | (rw [Array.getElem?_toList]; first | exact hc1 | exact hc2))) <;> refine Ac ?_)) | ((fail_if_success (with_reducible refine Ad ?_)); first | go_step | go_step3 | rw [Exit.noGoto_normal] | rw [Exit.noGoto_ret] | rw [Exit.noGoto_exit]))
              refine any_turn 9 (by kernel_rfl) (by rfl) ?_
              refine s_call Aa (by rfl) (by rfl) (by rfl) (by rfl) (by rfl) (by infer_instance) (num_8 y2 _) ?_
              rintro e w2 ⟨sv2, rfl, ho, hBe⟩
              obtain ⟨p8, c8, rfl⟩ := ho.slice
              refine ⟨_, rfl, ?_⟩
              refine Ac ?_
              obtain ⟨Lb2, hB2, hS2⟩ := ho.join hS hBe
              replace hS := hS2
              clear hS2 ho hBe
              repeat' (first | ((with_reducible refine Ad ?_); first | ((first | refine Bn Aa ?_) <;> refine Ac ?_)) | ((fail_if_success (with_reducible refine Ad ?_)); first | go_step | go_step3 | rw [Exit.noGoto_normal] | rw [Exit.noGoto_ret] | rw [Exit.noGoto_exit]))
              (refine any_pull 10 (by kernel_rfl) (by rfl) (by rfl) (by exact fun _ _ _ _ h => h) ?_; apply Exists.intro; refine ⟨fun C w' => ?_, ?_⟩; (focus (first | exact Dv)); refine wa_put ?_)
              (refine any_pull 11 (by kernel_rfl) (by rfl) (by rfl) (by exact fun _ _ _ _ h => h) ?_; apply Exists.intro; refine ⟨fun C w' => ?_, ?_⟩; (focus (first | exact Co)); refine wa_put ?_)
              (refine any_pull 12 (by kernel_rfl) (by rfl) (by rfl) (by exact fun _ _ _ _ h => h) ?_; apply Exists.intro; refine ⟨fun C w' => ?_, ?_⟩; (focus (first | exact Co)); refine wa_put ?_)
              (refine any_pull 13 (by kernel_rfl) (by rfl) (by rfl) (by exact fun _ _ _ _ h => h) ?_; apply Exists.intro; refine ⟨fun C w' => ?_, ?_⟩; (focus (first | exact Cz)); refine wa_put ?_)
              (refine any_pull 14 (by kernel_rfl) (by rfl) (by rfl) (by exact fun _ _ _ _ h => h) ?_; apply Exists.intro; refine ⟨fun C w' => ?_, ?_⟩; (focus (first | exact Cz)); refine wa_put ?_)
              refine any_done (by kernel_rfl) ?_
              repeat' (first | ((with_reducible refine Ad ?_); first | ((first | refine Bn Aa ?_ | refine Bm Aa ?_ | refine Az Aa ?_ | refine Bf Aa Ab hS ?_ | refine Bi Aa Ab hS ?_ | refine Ag Aa ?_ | refine Af Aa ?_ | refine Bs Aa ?_ | refine Ao Aa ?_ | refine Bw Aa ?_ | refine Be Aa ?_ | refine Bg Aa ?_ | refine Bv Aa (fun hc => ?_) (fun hc => ?_) | refine Ah Aa ?_ | refine Bu Aa ?_ | refine Bj Aa ?_ | refine Bk Aa ?_) <;> refine Ac ?_) | ((first | refine Bh Aa Ab hS ?_ | refine Bt Aa Ab hS ?_ | refine Ba Aa Ab hS ?_ | refine Bd Aa Ab hS ?_); clear hS; intro b w hS; refine Ac ?_) | ((first | refine Av Aa Ab hS ?_ | refine Au Aa Ab hS ?_ | refine Bb Aa Ab hS ?_); clear hS; intro w hS; refine Ac ?_)) | ((fail_if_success (with_reducible refine Ad ?_)); first | go_step | go_step3 | rw [Exit.noGoto_normal] | rw [Exit.noGoto_ret] | rw [Exit.noGoto_exit]))
              rcases hB2 with ⟨_, e0, _⟩ | ⟨gn, cn, spn, en, n1, n2, n3, rfl⟩
              · exact absurd (congrArg List.length e0) (by rw [beB_len]; simp)
              simp only [Value.slice.injEq, true_and] at en
              obtain ⟨rfl, rfl⟩ := en
              simp only [List.cons_append, List.nil_append] at hS
              refine s_appL (L := [_, _]) (hS.perm (.cons _ (List.perm_append_comm (l₁ := [_, _])))) hB ⟨by omega, by rw [beB_len]; omega, by rw [beB_len]; omega⟩ (by rfl) (by rfl) (by rfl) (by rfl) ?_
              intro sv' Lr' w' hB' hS'
              rw [← hbx] at hB'
              obtain ⟨p9, c9, rfl⟩ := hB'.slice
              refine Ac ?_
              replace hS := St.perm hS' (List.perm_append_comm (l₂ := [_, _]))
              simp only [List.cons_append, List.nil_append] at hS
              clear hS'
              repeat' (first | ((with_reducible refine Ad ?_); first | ((first | refine Bn Aa ?_ | refine Bm Aa ?_ | refine Az Aa ?_ | refine Bf Aa Ab hS ?_ | refine Bi Aa Ab hS ?_ | refine Ag Aa ?_ | refine Af Aa ?_ | refine Bs Aa ?_ | refine Ao Aa ?_ | refine Bw Aa ?_ | refine Be Aa ?_ | refine Bg Aa ?_ | refine Bv Aa (fun hc => ?_) (fun hc => ?_) | refine Ah Aa ?_ | refine Bu Aa ?_ | refine Bj Aa ?_ | refine Bk Aa ?_) <;> refine Ac ?_) | ((first | refine Bh Aa Ab hS ?_ | refine Bt Aa Ab hS ?_ | refine Ba Aa Ab hS ?_ | refine Bd Aa Ab hS ?_); clear hS; intro b w hS; refine Ac ?_) | ((first | refine Av Aa Ab hS ?_ | refine Au Aa Ab hS ?_ | refine Bb Aa Ab hS ?_); clear hS; intro w hS; refine Ac ?_)) | ((fail_if_success (with_reducible refine Ad ?_)); first | go_step | go_step3 | rw [Exit.noGoto_normal] | rw [Exit.noGoto_ret] | rw [Exit.noGoto_exit]))
              go_roundw
              case rel => exact ⟨k + 1, Lr', by omega, by push_cast; rfl, hB', hS⟩
              case measure => first | (simp [intOf]; done) | (simp [intOf]; omega)
          · dsimp only at e1 e2 e3
            subst e1
            rw [show beB (u64W y2) ((1 : Int).toNat) = beB (u64W y2) 1 from rfl] at hbx
            obtain ⟨p7, c7, rfl⟩ := hB.slice
            repeat' (first | ((with_reducible refine Ad ?_); first | ((first | refine Bn Aa ?_ | refine Bm Aa ?_ | refine Az Aa ?_ | refine Bf Aa Ab hS ?_ | refine Bi Aa Ab hS ?_ | refine Ag Aa ?_ | refine Af Aa ?_ | refine Bs Aa ?_ | refine Ao Aa ?_ | refine Bw Aa ?_ | refine Be Aa ?_ | refine Bg Aa ?_ | refine Bv Aa (fun hc => ?_) (fun hc => ?_) | refine Ah Aa ?_ | refine Bu Aa ?_ | refine Bj Aa ?_ | refine Bk Aa ?_) <;> refine Ac ?_) | ((first | refine Bh Aa Ab hS ?_ | refine Bt Aa Ab hS ?_ | refine Ba Aa Ab hS ?_ | refine Bd Aa Ab hS ?_); clear hS; intro b w hS; refine Ac ?_) | ((first | refine Av Aa Ab hS ?_ | refine Au Aa Ab hS ?_ | refine Bb Aa Ab hS ?_); clear hS; intro w hS; refine Ac ?_)) | ((fail_if_success (with_reducible refine Ad ?_)); first | go_step | go_step3 | rw [Exit.noGoto_normal] | rw [Exit.noGoto_ret] | rw [Exit.noGoto_exit]))
            refine any_start [0, 1, 2, 3, 4, 5, 6, 7, 8, 9, 10, 11, 12, 13, 14] (by kernel_rfl) (by kernel_rfl) ?_
            intro w hcq
            replace hS := hS.cls hcq
            clear hcq
            (refine any_pull 0 (by kernel_rfl) (by rfl) (by rfl) (by exact fun _ _ _ _ h => h) ?_; apply Exists.intro; refine ⟨fun C w' => ?_, ?_⟩; (focus (first | exact Dv)); refine wa_put ?_)
            (refine any_pull 1 (by kernel_rfl) (by rfl) (by rfl) (by exact fun _ _ _ _ h => h) ?_; apply Exists.intro; refine ⟨fun C w' => ?_, ?_⟩; (focus (first | exact Dv)); refine wa_put ?_)
            (refine any_pull 2 (by kernel_rfl) (by rfl) (by rfl) (by exact fun _ _ _ _ h => h) ?_; apply Exists.intro; refine ⟨fun C w' => ?_, ?_⟩; (focus (first | exact Ci | exact Cf)); refine wa_put ?_)
            (refine any_pull 4 (by kernel_rfl) (by rfl) (by rfl) (by exact fun _ _ _ _ h => h) ?_; apply Exists.intro; refine ⟨fun C w' => ?_, ?_⟩; (focus (first | exact Dv)); refine wa_put ?_)
            (refine any_pull 5 (by kernel_rfl) (by rfl) (by rfl) (by exact fun _ _ _ _ h => h) ?_; apply Exists.intro; refine ⟨fun C w' => ?_, ?_⟩; (focus (first | exact Dv)); refine wa_put ?_)
            (refine any_pull 6 (by kernel_rfl) (by rfl) (by rfl) (by exact fun _ _ _ _ h => h) ?_; apply Exists.intro; refine ⟨fun C w' => ?_, ?_⟩; (focus (first | exact Dy)); refine wa_put ?_)
            (refine any_pull 7 (by kernel_rfl) (by rfl) (by rfl) (by exact fun _ _ _ _ h => h) ?_; apply Exists.intro; refine ⟨fun C w' => ?_, ?_⟩; (focus (first | exact Ci | exact Cf)); refine wa_put ?_)
            refine any_turn2 3 8 (by kernel_rfl) (by rfl) (by rfl) ?_ ?_
            · repeat' (first | ((with_reducible refine Ad ?_); first | ((first | refine Bn Aa ?_ | refine Bf Aa Ab hS ?_ (hv := by first | rfl | exact Bl | (rw [Array.getElem?_toList]; first | exact hc1 | exact hc2))) <;> refine Ac ?_)) | ((fail_if_success (with_reducible refine Ad ?_)); first | go_step | go_step3 | rw [Exit.noGoto_normal] | rw [Exit.noGoto_ret] | rw [Exit.noGoto_exit]))
              refine any_turn 8 (by kernel_rfl) (by rfl) ?_
              repeat' (first | ((with_reducible refine Ad ?_); first | ((first | refine Bn Aa ?_ | refine Bf Aa Ab hS ?_ (hv := by first | rfl | exact Bl | (rw [Array.getElem?_toList]; first | exact hc1 | exact hc2))) <;> refine Ac ?_)) | ((fail_if_success (with_reducible refine Ad ?_)); first | go_step | go_step3 | rw [Exit.noGoto_normal] | rw [Exit.noGoto_ret] | rw [Exit.noGoto_exit]))
              refine any_turn 9 (by kernel_rfl) (by rfl) ?_
              refine s_call Aa (by rfl) (by rfl) (by rfl) (by rfl) (by rfl) (by infer_instance) (num_1 y2 ⟨e2, e3⟩ _) ?_
              rintro e w2 ⟨sv2, rfl, ho, hBe⟩
              obtain ⟨p8, c8, rfl⟩ := ho.slice
              refine ⟨_, rfl, ?_⟩
              refine Ac ?_
              obtain ⟨Lb2, hB2, hS2⟩ := ho.join hS hBe
              replace hS := hS2
              clear hS2 ho hBe
              repeat' (first | ((with_reducible refine Ad ?_); first | ((first | refine Bn Aa ?_) <;> refine Ac ?_)) | ((fail_if_success (with_reducible refine Ad ?_)); first | go_step | go_step3 | rw [Exit.noGoto_normal] | rw [Exit.noGoto_ret] | rw [Exit.noGoto_exit]))
              (refine any_pull 10 (by kernel_rfl) (by rfl) (by rfl) (by exact fun _ _ _ _ h => h) ?_; apply Exists.intro; refine ⟨fun C w' => ?_, ?_⟩; (focus (first | exact Dv)); refine wa_put ?_)
              (refine any_pull 11 (by kernel_rfl) (by rfl) (by rfl) (by exact fun _ _ _ _ h => h) ?_; apply Exists.intro; refine ⟨fun C w' => ?_, ?_⟩; (focus (first | exact Co)); refine wa_put ?_)
              (refine any_pull 12 (by kernel_rfl) (by rfl) (by rfl) (by exact fun _ _ _ _ h => h) ?_; apply Exists.intro; refine ⟨fun C w' => ?_, ?_⟩; (focus (first | exact Co)); refine wa_put ?_)
              (refine any_pull 13 (by kernel_rfl) (by rfl) (by rfl) (by exact fun _ _ _ _ h => h) ?_; apply Exists.intro; refine ⟨fun C w' => ?_, ?_⟩; (focus (first | exact Cz)); refine wa_put ?_)
              (refine any_pull 14 (by kernel_rfl) (by rfl) (by rfl) (by exact fun _ _ _ _ h => h) ?_; apply Exists.intro; refine ⟨fun C w' => ?_, ?_⟩; (focus (first | exact Cz)); refine wa_put ?_)
              refine any_done (by kernel_rfl) ?_
              repeat' (first | ((with_reducible refine Ad ?_); first | ((first | refine Bn Aa ?_ | refine Bm Aa ?_ | refine Az Aa ?_ | refine Bf Aa Ab hS ?_ | refine Bi Aa Ab hS ?_ | refine Ag Aa ?_ | refine Af Aa ?_ | refine Bs Aa ?_ | refine Ao Aa ?_ | refine Bw Aa ?_ | refine Be Aa ?_ | refine Bg Aa ?_ | refine Bv Aa (fun hc => ?_) (fun hc => ?_) | refine Ah Aa ?_ | refine Bu Aa ?_ | refine Bj Aa ?_ | refine Bk Aa ?_) <;> refine Ac ?_) | ((first | refine Bh Aa Ab hS ?_ | refine Bt Aa Ab hS ?_ | refine Ba Aa Ab hS ?_ | refine Bd Aa Ab hS ?_); clear hS; intro b w hS; refine Ac ?_) | ((first | refine Av Aa Ab hS ?_ | refine Au Aa Ab hS ?_ | refine Bb Aa Ab hS ?_); clear hS; intro w hS; refine Ac ?_)) | ((fail_if_success (with_reducible refine Ad ?_)); first | go_step | go_step3 | rw [Exit.noGoto_normal] | rw [Exit.noGoto_ret] | rw [Exit.noGoto_exit]))
              rcases hB2 with ⟨_, e0, _⟩ | ⟨gn, cn, spn, en, n1, n2, n3, rfl⟩
              · exact absurd (congrArg List.length e0) (by rw [beB_len]; simp)
              simp only [Value.slice.injEq, true_and] at en
              obtain ⟨rfl, rfl⟩ := en
              simp only [List.cons_append, List.nil_append] at hS
              refine s_appL (L := [_, _]) (hS.perm (.cons _ (List.perm_append_comm (l₁ := [_, _])))) hB ⟨by omega, by rw [beB_len]; omega, by rw [beB_len]; omega⟩ (by rfl) (by rfl) (by rfl) (by rfl) ?_
              intro sv' Lr' w' hB' hS'
              rw [← hbx] at hB'
              obtain ⟨p9, c9, rfl⟩ := hB'.slice
              refine Ac ?_
              replace hS := St.perm hS' (List.perm_append_comm (l₂ := [_, _]))
              simp only [List.cons_append, List.nil_append] at hS
              clear hS'
              repeat' (first | ((with_reducible refine Ad ?_); first | ((first | refine Bn Aa ?_ | refine Bm Aa ?_ | refine Az Aa ?_ | refine Bf Aa Ab hS ?_ | refine Bi Aa Ab hS ?_ | refine Ag Aa ?_ | refine Af Aa ?_ | refine Bs Aa ?_ | refine Ao Aa ?_ | refine Bw Aa ?_ | refine Be Aa ?_ | refine Bg Aa ?_ | refine Bv Aa (fun hc => ?_) (fun hc => ?_) | refine Ah Aa ?_ | refine Bu Aa ?_ | refine Bj Aa ?_ | refine Bk Aa ?_) <;> refine Ac ?_) | ((first | refine Bh Aa Ab hS ?_ | refine Bt Aa Ab hS ?_ | refine Ba Aa Ab hS ?_ | refine Bd Aa Ab hS ?_); clear hS; intro b w hS; refine Ac ?_) | ((first | refine Av Aa Ab hS ?_ | refine Au Aa Ab hS ?_ | refine Bb Aa Ab hS ?_); clear hS; intro w hS; refine Ac ?_)) | ((fail_if_success (with_reducible refine Ad ?_)); first | go_step | go_step3 | rw [Exit.noGoto_normal] | rw [Exit.noGoto_ret] | rw [Exit.noGoto_exit]))
              go_roundw
              case rel => exact ⟨k + 1, Lr', by omega, by push_cast; rfl, hB', hS⟩
              case measure => first | (simp [intOf]; done) | (simp [intOf]; omega)
            · repeat' (first | ((with_reducible refine Ad ?_); first | ((first | refine Bn Aa ?_ | refine Bf Aa Ab hS ?_ (hv := by first | rfl | exact Bl | (rw [Array.getElem?_toList]; first | exact hc1 | exact hc2))) <;> refine Ac ?_)) | ((fail_if_success (with_reducible refine Ad ?_)); first | go_step | go_step3 | rw [Exit.noGoto_normal] | rw [Exit.noGoto_ret] | rw [Exit.noGoto_exit]))
              refine any_turn 3 (by kernel_rfl) (by rfl) ?_
              repeat' (first | ((with_reducible refine Ad ?_); first | ((first | refine Bn Aa ?_ | refine Bf Aa Ab hS ?_ (hv := by first | rfl | exact Bl | (rw [Array.getElem?_toList]; first | exact hc1 | exact hc2))) <;> refine Ac ?_)) | ((fail_if_success (with_reducible refine Ad ?_)); first | go_step | go_step3 | rw [Exit.noGoto_normal] | rw [Exit.noGoto_ret] | rw [Exit.noGoto_exit]))
              refine any_turn 9 (by kernel_rfl) (by rfl) ?_
              refine s_call Aa (by rfl) (by rfl) (by rfl) (by rfl) (by rfl) (by infer_instance) (num_1 y2 ⟨e2, e3⟩ _) ?_
              rintro e w2 ⟨sv2, rfl, ho, hBe⟩
              obtain ⟨p8, c8, rfl⟩ := ho.slice
              refine ⟨_, rfl, ?_⟩
              refine Ac ?_
              obtain ⟨Lb2, hB2, hS2⟩ := ho.join hS hBe
              replace hS := hS2
              clear hS2 ho hBe
              repeat' (first | ((with_reducible refine Ad ?_); first | ((first | refine Bn Aa ?_) <;> refine Ac ?_)) | ((fail_if_success (with_reducible refine Ad ?_)); first | go_step | go_step3 | rw [Exit.noGoto_normal] | rw [Exit.noGoto_ret] | rw [Exit.noGoto_exit]))
              (refine any_pull 10 (by kernel_rfl) (by rfl) (by rfl) (by exact fun _ _ _ _ h => h) ?_; apply Exists.intro; refine ⟨fun C w' => ?_, ?_⟩; (focus (first | exact Dv)); refine wa_put ?_)
              (refine any_pull 11 (by kernel_rfl) (by rfl) (by rfl) (by exact fun _ _ _ _ h => h) ?_; apply Exists.intro; refine ⟨fun C w' => ?_, ?_⟩; (focus (first | exact Co)); refine wa_put ?_)
              (refine any_pull 12 (by kernel_rfl) (by rfl) (by rfl) (by exact fun _ _ _ _ h => h) ?_; apply Exists.intro; refine ⟨fun C w' => ?_, ?_⟩; (focus (first | exact Co)); refine wa_put ?_)
              (refine any_pull 13 (by kernel_rfl) (by rfl) (by rfl) (by exact fun _ _ _ _ h => h) ?_; apply Exists.intro; refine ⟨fun C w' => ?_, ?_⟩; (focus (first | exact Cz)); refine wa_put ?_)
              (refine any_pull 14 (by kernel_rfl) (by rfl) (by rfl) (by exact fun _ _ _ _ h => h) ?_; apply Exists.intro; refine ⟨fun C w' => ?_, ?_⟩; (focus (first | exact Cz)); refine wa_put ?_)
              refine any_done (by kernel_rfl) ?_
              repeat' (first | ((with_reducible refine Ad ?_); first | ((first | refine Bn Aa ?_ | refine Bm Aa ?_ | refine Az Aa ?_ | refine Bf Aa Ab hS ?_ | refine Bi Aa Ab hS ?_ | refine Ag Aa ?_ | refine Af Aa ?_ | refine Bs Aa ?_ | refine Ao Aa ?_ | refine Bw Aa ?_ | refine Be Aa ?_ | refine Bg Aa ?_ | refine Bv Aa (fun hc => ?_) (fun hc => ?_) | refine Ah Aa ?_ | refine Bu Aa ?_ | refine Bj Aa ?_ | refine Bk Aa ?_) <;> refine Ac ?_) | ((first | refine Bh Aa Ab hS ?_ | refine Bt Aa Ab hS ?_ | refine Ba Aa Ab hS ?_ | refine Bd Aa Ab hS ?_); clear hS; intro b w hS; refine Ac ?_) | ((first | refine Av Aa Ab hS ?_ | refine Au Aa Ab hS ?_ | refine Bb Aa Ab hS ?_); clear hS; intro w hS; refine Ac ?_)) | ((fail_if_success (with_reducible refine Ad ?_)); first | go_step | go_step3 | rw [Exit.noGoto_normal] | rw [Exit.noGoto_ret] | rw [Exit.noGoto_exit]))
              rcases hB2 with ⟨_, e0, _⟩ | ⟨gn, cn, spn, en, n1, n2, n3, rfl⟩
              · exact absurd (congrArg List.length e0) (by rw [beB_len]; simp)
              simp only [Value.slice.injEq, true_and] at en
              obtain ⟨rfl, rfl⟩ := en
              simp only [List.cons_append, List.nil_append] at hS
              refine s_appL (L := [_, _]) (hS.perm (.cons _ (List.perm_append_comm (l₁ := [_, _])))) hB ⟨by omega, by rw [beB_len]; omega, by rw [beB_len]; omega⟩ (by rfl) (by rfl) (by rfl) (by rfl) ?_
              intro sv' Lr' w' hB' hS'
              rw [← hbx] at hB'
              obtain ⟨p9, c9, rfl⟩ := hB'.slice
              refine Ac ?_
              replace hS := St.perm hS' (List.perm_append_comm (l₂ := [_, _]))
              simp only [List.cons_append, List.nil_append] at hS
              clear hS'
              repeat' (first | ((with_reducible refine Ad ?_); first | ((first | refine Bn Aa ?_ | refine Bm Aa ?_ | refine Az Aa ?_ | refine Bf Aa Ab hS ?_ | refine Bi Aa Ab hS ?_ | refine Ag Aa ?_ | refine Af Aa ?_ | refine Bs Aa ?_ | refine Ao Aa ?_ | refine Bw Aa ?_ | refine Be Aa ?_ | refine Bg Aa ?_ | refine Bv Aa (fun hc => ?_) (fun hc => ?_) | refine Ah Aa ?_ | refine Bu Aa ?_ | refine Bj Aa ?_ | refine Bk Aa ?_) <;> refine Ac ?_) | ((first | refine Bh Aa Ab hS ?_ | refine Bt Aa Ab hS ?_ | refine Ba Aa Ab hS ?_ | refine Bd Aa Ab hS ?_); clear hS; intro b w hS; refine Ac ?_) | ((first | refine Av Aa Ab hS ?_ | refine Au Aa Ab hS ?_ | refine Bb Aa Ab hS ?_); clear hS; intro w hS; refine Ac ?_)) | ((fail_if_success (with_reducible refine Ad ?_)); first | go_step | go_step3 | rw [Exit.noGoto_normal] | rw [Exit.noGoto_ret] | rw [Exit.noGoto_exit]))
              go_roundw
              case rel => exact ⟨k + 1, Lr', by omega, by push_cast; rfl, hB', hS⟩
              case measure => first | (simp [intOf]; done) | (simp [intOf]; omega)
        · obtain rfl : k = NP.length := by omega
          rw [List.take_length] at hB
          obtain ⟨BB, hBB⟩ : ∃ BB, bytesR NP = BB := ⟨_, rfl⟩
          rw [hBB] at hB hbl
          replace hS := hS.erase 0
          simp only [List.eraseIdx_cons_zero] at hS
          obtain ⟨p7, c7, rfl⟩ := hB.slice
          repeat' (first | ((with_reducible refine Ad ?_); first | ((first | refine Bn Aa ?_ | refine Bm Aa ?_ | refine Az Aa ?_ | refine Bf Aa Ab hS ?_ | refine Bi Aa Ab hS ?_ | refine Ag Aa ?_ | refine Af Aa ?_ | refine Bs Aa ?_ | refine Ao Aa ?_ | refine Bw Aa ?_ | refine Be Aa ?_ | refine Bg Aa ?_ | refine Bv Aa (fun hc => ?_) (fun hc => ?_) | refine Ah Aa ?_ | refine Bu Aa ?_ | refine Bj Aa ?_ | refine Bk Aa ?_) <;> refine Ac ?_) | ((first | refine Bh Aa Ab hS ?_ | refine Bt Aa Ab hS ?_ | refine Ba Aa Ab hS ?_ | refine Bd Aa Ab hS ?_); clear hS; intro b w hS; refine Ac ?_) | ((first | refine Av Aa Ab hS ?_ | refine Au Aa Ab hS ?_ | refine Bb Aa Ab hS ?_); clear hS; intro w hS; refine Ac ?_)) | ((fail_if_success (with_reducible refine Ad ?_)); first | go_step | go_step3 | rw [Exit.noGoto_normal] | rw [Exit.noGoto_ret] | rw [Exit.noGoto_exit]))
          go_loopw [11] (fun u11 wr => ∃ k : Nat, k ≤ BB.length ∧ u11 = .int .i64 (k : Int) ∧ St w0 wr ((b, bvs (BB.take k ++ zs (128 - k)), 55) :: (br, bvs (zs 128), 55) :: Lb)) (fun u11 _ => BB.length - (intOf u11).toNat)
          case atStart => exact ⟨0, by omega, rfl, hS⟩
          case round =>
            obtain ⟨k, hk, rfl, hS⟩ := hrel
            by_cases hlt : k < BB.length
            · rcases hB with ⟨_, e0, _⟩ | ⟨gn, cn, spn, en, n1, n2, n3, rfl⟩
              · rw [e0] at hlt
                exact absurd hlt (Nat.not_lt_zero _)
              simp only [Value.slice.injEq, true_and] at en
              obtain ⟨rfl, rfl⟩ := en
              have q1 := cell_preR (R := BB) (sp := spn) hlt
              have q2 : (BB.take k ++ zs (128 - k)).length = 128 := by rw [List.length_append, List.length_take, zs_len]; omega
              have q3 : BB.length ≤ csz ((BB.map bv ++ spn).toArray) := by rw [Bz, List.length_append, List.length_map]; omega
              have hpn := put_next hlt (by omega)
              obtain ⟨X, hX⟩ : ∃ X, BB.take k ++ zs (128 - k) = X := ⟨_, rfl⟩
              rw [hX] at hS hpn q2
              repeat' (first | ((with_reducible refine Ad ?_); first | ((first | refine Bn Aa ?_ | refine Bm Aa ?_ | refine Az Aa ?_ | refine Bf Aa Ab hS ?_ (hv := by first | rfl | exact Bl | (rw [Array.getElem?_toList]; first | exact q1 | exact cell_preR hlt)) | refine Bi Aa Ab hS ?_ (hv := by first | exact Bq _ _ (by (try simp only [Ca, Ce, Bz, List.length_append, List.length_set, zs_len, List.length_take, List.length_drop, List.length_cons, List.length_nil]); first | done | rfl | omega) | (first | exact q1 | exact cell_preR hlt) | rfl) | refine Ag Aa ?_ | refine Af Aa ?_ | refine Bs Aa ?_ | refine Ao Aa ?_ | refine Bw Aa ?_ | refine Be Aa ?_ | refine Bg Aa ?_ | refine Bv Aa (fun hc => ?_) (fun hc => ?_) | refine Ah Aa ?_ | refine Bu Aa ?_ | refine Bj Aa ?_ | refine Bk Aa ?_) <;> refine Ac ?_) | ((first | refine Bh Aa Ab hS ?_ | refine Bt Aa Ab hS ?_ | refine Ba Aa Ab hS ?_ | refine Bd Aa Ab hS ?_); clear hS; intro b w hS; refine Ac ?_) | ((first | refine Av Aa Ab hS ?_ | refine Au Aa Ab hS ?_ | refine Bb Aa Ab hS ?_); clear hS; intro w hS; refine Ac ?_)) | ((fail_if_success (with_reducible refine Ad ?_)); first | go_step | go_step3 | rw [Exit.noGoto_normal] | rw [Exit.noGoto_ret] | rw [Exit.noGoto_exit]))
              rw [hpn] at hS
              go_roundw
              case rel => exact ⟨k + 1, by omega, by push_cast; rfl, hS⟩
              case measure => simp [intOf]; omega
            · obtain rfl : k = BB.length := by omega
              rw [List.take_length] at hS
              have s2 : csz (bvs (BB ++ zs (128 - BB.length))) = 128 := by rw [Ce, List.length_append, zs_len]; omega
              repeat' (first | ((with_reducible refine Ad ?_); first | ((first | refine Bn Aa ?_ | refine Bm Aa ?_ | refine Az Aa ?_ | refine Bf Aa Ab hS ?_ | refine Bi Aa Ab hS ?_ | refine Ag Aa ?_ | refine Af Aa ?_ | refine Bs Aa ?_ | refine Ao Aa ?_ | refine Bw Aa ?_ | refine Be Aa ?_ | refine Bg Aa ?_ | refine Bv Aa (fun hc => ?_) (fun hc => ?_) | refine Ah Aa ?_ | refine Bu Aa ?_ | refine Bj Aa ?_ | refine Bk Aa ?_) <;> refine Ac ?_) | ((first | refine Bh Aa Ab hS ?_ | refine Bt Aa Ab hS ?_ | refine Ba Aa Ab hS ?_ | refine Bd Aa Ab hS ?_); clear hS; intro b w hS; refine Ac ?_) | ((first | refine Av Aa Ab hS ?_ | refine Au Aa Ab hS ?_ | refine Bb Aa Ab hS ?_); clear hS; intro w hS; refine Ac ?_)) | ((fail_if_success (with_reducible refine Ad ?_)); first | go_step | go_step3 | rw [Exit.noGoto_normal] | rw [Exit.noGoto_ret] | rw [Exit.noGoto_exit]))
              exact De (n := 128) Try.results24 (by kernel_rfl) (.inl rfl) _ _ _ _ rfl rfl (hS.blk 1 rfl) (by rw [← csz_is]; exact s2) ⟨by subst hBB; rfl, hS.below⟩
set_option maxRecDepth 100000 in
set_option maxHeartbeats 8000000 in
theorem noteRef_false (l : List Rg) (h t g : Int) (hG : goodR ⟨l, h, t, false, g⟩) (v : Value) (w0 : World) (hv : RegsAt w0 v l) :
    Calls Try.prog 24 #[.agg #[v, .int .i64 h, .int .i64 t, .bool false, .int .i64 g]] w0 fun e w' => e = .returned (.tuple #[.agg (bvs (cellR ⟨l, h, t, false, g⟩)), .bool true]) ∧ Below w0.heap.size w0 w' := by
  obtain ⟨p1, c1, rfl, _⟩ := hv.slice
  have h4 : l.length ≤ 4 := hG.1.1
  have hC := fun (w : World) hw => goodRef_any l h t g false (.slice p1 l.length c1) w hw (by omega)
  rw [decide_eq_true hG] at hC
  have hsz := numsR_sized hG
  have hbl := numsB_len hG
  have hnl := numsR_len ⟨l, h, t, false, g⟩
  obtain ⟨NP, hNP⟩ : ∃ NP, numsR ⟨l, h, t, false, g⟩ = NP := ⟨_, rfl⟩
  have hNP2 : [((8 : Int), g), (1, 0), (1, t), (1, (l.length : Int)), (8, wrap64 (h + 1))] ++ l.flatMap (fun y => [((8 : Int), y.1), (8, y.2)]) = NP := hNP
  have hcell : cellR ⟨l, h, t, false, g⟩ = bytesR NP ++ zs (128 - (bytesR NP).length) := by unfold cellR; rw [hNP]
  rw [hNP] at hsz hbl hnl
  dsimp only at hnl
  rw [hcell]
  clear hNP hcell hG
  have hS := St.start w0
  go_enter Try.func24, Try.ntmps24
  repeat' (first | ((with_reducible refine Ad ?_); first | ((first | refine Bn Aa ?_ | refine Bm Aa ?_ | refine Az Aa ?_ | refine Bf Aa Ab hS ?_ | refine Bi Aa Ab hS ?_ | refine Ag Aa ?_ | refine Af Aa ?_ | refine Bs Aa ?_ | refine Ao Aa ?_ | refine Bw Aa ?_ | refine Be Aa ?_ | refine Bg Aa ?_ | refine Bv Aa (fun hc => ?_) (fun hc => ?_) | refine Ah Aa ?_ | refine Bu Aa ?_ | refine Bj Aa ?_ | refine Bk Aa ?_) <;> refine Ac ?_) | ((first | refine Bh Aa Ab hS ?_ | refine Bt Aa Ab hS ?_ | refine Ba Aa Ab hS ?_ | refine Bd Aa Ab hS ?_); clear hS; intro b w hS; refine Ac ?_) | ((first | refine Av Aa Ab hS ?_ | refine Au Aa Ab hS ?_ | refine Bb Aa Ab hS ?_); clear hS; intro w hS; refine Ac ?_) | (refine Cb Aa Ab hS (hC _ (hv.below hS.below)) ?_; clear hS; intro w hS; refine Ac ?_) | (refine Stp.go Aa (by rfl) (by rfl) (r_addW (by rfl) (by rfl) (by rfl) rfl) ?_; refine Ac ?_) | (refine Bk Aa ?_ (hc := FillS.one (by rfl) (by rfl) (by decide) (by (try conv => lhs; simp only [List.set_cons_zero, List.set_cons_succ]); first | done | rfl) (FillS.one (by rfl) (by rfl) (by decide) (by (try conv => lhs; simp only [List.set_cons_zero, List.set_cons_succ]); first | done | rfl) (FillS.one (by rfl) (by rfl) (by decide) (by (try conv => lhs; simp only [List.set_cons_zero, List.set_cons_succ]); first | done | rfl) (FillS.one (by rfl) (by rfl) (by decide) (by (try conv => lhs; simp only [List.set_cons_zero, List.set_cons_succ]); first | done | rfl) (FillS.one (by rfl) (by rfl) (by decide) (by (try conv => lhs; simp only [List.set_cons_zero, List.set_cons_succ]); first | done | rfl) (FillS.one (by rfl) (by rfl) (by decide) (by (try conv => lhs; simp only [List.set_cons_zero, List.set_cons_succ]); first | done | rfl) (FillS.one (by rfl) (by rfl) (by decide) (by (try conv => lhs; simp only [List.set_cons_zero, List.set_cons_succ]); first | done | rfl) (FillS.one (by rfl) (by rfl) (by decide) (by (try conv => lhs; simp only [List.set_cons_zero, List.set_cons_succ]); first | done | rfl) (FillS.one (by rfl) (by rfl) (by decide) (by (try conv => lhs; simp only [List.set_cons_zero, List.set_cons_succ]); first | done | rfl) (FillS.one (by rfl) (by rfl) (by decide) (by (try conv => lhs; simp only [List.set_cons_zero, List.set_cons_succ]); first | done | rfl) FillS.nil)))))))))); refine Ac ?_)) | ((fail_if_success (with_reducible refine Ad ?_)); first | go_step | go_step3 | rw [Exit.noGoto_normal] | rw [Exit.noGoto_ret] | rw [Exit.noGoto_exit]))
  clear hC

  rename_i bx z1 br z2 z3 z4 z5 z6
  go_loopw [5, 6] (fun u5 u6 wr => ∃ (k : Nat) (Lr : List Blk), k ≤ l.length ∧ u6 = .int .i64 (k : Int) ∧ NL ([((8 : Int), g), (1, 0), (1, t), (1, (l.length : Int)), (8, wrap64 (h + 1))] ++ (l.take k).flatMap (fun y => [((8 : Int), y.1), (8, y.2)])) u5 Lr ∧ St w0 wr (Lr ++ [(br, bvs (zs 128), 55), (bx, #[.slice p1 l.length c1, .int .i64 h, .int .i64 t, .bool false, .int .i64 g], 24)])) (fun _ u6 _ => l.length - (intOf u6).toNat)
  case atStart => exact ⟨0, [_], by omega, rfl, ⟨b, 10, [], rfl, Nat.le_refl _, by decide, rfl, rfl⟩, hS⟩
  case round =>
    obtain ⟨k, Lr, hk, rfl, hR, hS⟩ := hrel
    by_cases hlt : k < l.length
    · obtain ⟨rb, o, cs, ty, fr, rfl, hb, hcell⟩ := hv.open_ (by omega)
      have q1 := csz_reg hcell hlt
      have hcut := And.intro (who_cell hcell hlt) (key_cell hcell hlt)
      obtain ⟨⟨y1, y2⟩, hy⟩ : ∃ y, l.getD k (0, 0) = y := ⟨_, rfl⟩
      have hfn := flat_next hlt hy
      rw [hy] at hcut
      dsimp only at hcut hfn
      have hll : ([((8 : Int), g), (1, 0), (1, t), (1, (l.length : Int)), (8, wrap64 (h + 1))] ++ (l.take k).flatMap (fun y => [((8 : Int), y.1), (8, y.2)])).length ≤ 100 := by
        rw [List.length_append, pairs_len, List.length_take, List.length_cons, List.length_cons, List.length_cons, List.length_cons, List.length_cons, List.length_nil]
        omega
      obtain ⟨PP, hPP⟩ : ∃ PP, [((8 : Int), g), (1, 0), (1, t), (1, (l.length : Int)), (8, wrap64 (h + 1))] ++ (l.take k).flatMap (fun y => [((8 : Int), y.1), (8, y.2)]) = PP := ⟨_, rfl⟩
      rw [hPP] at hR hll
      obtain ⟨g1, cp, sp, rfl, k1, k2, k3, rfl⟩ := hR
      simp only [List.cons_append, List.nil_append] at hS
      repeat' (first | ((with_reducible refine Ad ?_); first | ((first | refine Bn Aa ?_ | refine Bm Aa ?_ | refine Az Aa ?_ | refine Bf Aa Ab hS ?_ | refine Bi Aa Ab hS ?_ | refine Ag Aa ?_ | refine Af Aa ?_ | refine Bs Aa ?_ | refine Ao Aa ?_ | refine Bw Aa ?_ | refine Be Aa ?_ | refine Bg Aa ?_ | refine Bv Aa (fun hc => ?_) (fun hc => ?_) | refine Ah Aa ?_ | refine Bu Aa ?_ | refine Bj Aa ?_ | refine Bk Aa ?_) <;> refine Ac ?_) | ((first | refine Bh Aa Ab hS ?_ | refine Bt Aa Ab hS ?_ | refine Ba Aa Ab hS ?_ | refine Bd Aa Ab hS ?_); clear hS; intro b w hS; refine Ac ?_) | ((first | refine Av Aa Ab hS ?_ | refine Au Aa Ab hS ?_ | refine Bb Aa Ab hS ?_); clear hS; intro w hS; refine Ac ?_)) | ((fail_if_success (with_reducible refine Ad ?_)); first | go_step | go_step3 | rw [Exit.noGoto_normal] | rw [Exit.noGoto_ret] | rw [Exit.noGoto_exit]))
      refine any_start [0, 1, 2, 3, 4, 5, 6, 7, 8, 9, 10, 11, 12, 13, 14, 15] (by kernel_rfl) (by kernel_rfl) ?_
      intro w hcq
      replace hS := hS.cls hcq
      clear hcq
      (refine any_pull 0 (by kernel_rfl) (by rfl) (by rfl) (by exact fun _ _ _ _ h => h) ?_; apply Exists.intro; refine ⟨fun C w' => ?_, ?_⟩; (focus (first | exact Dv)); refine wa_put ?_)
      (refine any_pull 1 (by kernel_rfl) (by rfl) (by rfl) (by exact fun _ _ _ _ h => h) ?_; apply Exists.intro; refine ⟨fun C w' => ?_, ?_⟩; (focus (first | exact Ch)); refine wa_put ?_)
      (refine any_pull 3 (by kernel_rfl) (by rfl) (by rfl) (by exact fun _ _ _ _ h => h) ?_; apply Exists.intro; refine ⟨fun C w' => ?_, ?_⟩; (focus (first | exact Dv)); refine wa_put ?_)
      (refine any_pull 7 (by kernel_rfl) (by rfl) (by rfl) (by exact fun _ _ _ _ h => h) ?_; apply Exists.intro; refine ⟨fun C w' => ?_, ?_⟩; (focus (first | exact Ch)); refine wa_put ?_)
      (refine any_pull 9 (by kernel_rfl) (by rfl) (by rfl) (by exact fun _ _ _ _ h => h) ?_; apply Exists.intro; refine ⟨fun C w' => ?_, ?_⟩; (focus (first | exact Dv)); refine wa_put ?_)
      refine any_turn2 2 8 (by kernel_rfl) (by rfl) (by rfl) ?_ ?_
      · repeat' (first | ((with_reducible refine Ad ?_); first | ((first | refine Bn Aa ?_ | refine Bf Aa Ab hS ?_ (hv := by first | rfl | exact Bl | (rw [Array.getElem?_toList]; first | exact hcut.1 | exact hcut.2)) | refine Dp Aa (by first | exact ((hS).far hb).1) ?_ (hv := by first | rfl | exact Bl | (rw [Array.getElem?_toList]; first | exact hcut.1 | exact hcut.2))) <;> refine Ac ?_)) | ((fail_if_success (with_reducible refine Ad ?_)); first | go_step | go_step3 | rw [Exit.noGoto_normal] | rw [Exit.noGoto_ret] | rw [Exit.noGoto_exit]))
        (refine any_pull 4 (by kernel_rfl) (by rfl) (by rfl) (by exact fun _ _ _ _ h => h) ?_; apply Exists.intro; refine ⟨fun C w' => ?_, ?_⟩; (focus (first | exact Ci | exact Cf)); refine wa_put ?_)
        (refine any_pull 5 (by kernel_rfl) (by rfl) (by rfl) (by exact fun _ _ _ _ h => h) ?_; apply Exists.intro; refine ⟨fun C w' => ?_, ?_⟩; (focus (first | exact Ch)); refine wa_put ?_)
        refine any_turn2 6 8 (by kernel_rfl) (by rfl) (by rfl) ?_ ?_
        · repeat' (first | ((with_reducible refine Ad ?_); first | ((first | refine Bn Aa ?_ | refine Bf Aa Ab hS ?_ (hv := by first | rfl | exact Bl | (rw [Array.getElem?_toList]; first | exact hcut.1 | exact hcut.2)) | refine Dp Aa (by first | exact ((hS).far hb).1) ?_ (hv := by first | rfl | exact Bl | (rw [Array.getElem?_toList]; first | exact hcut.1 | exact hcut.2))) <;> refine Ac ?_)) | ((fail_if_success (with_reducible refine Ad ?_)); first | go_step | go_step3 | rw [Exit.noGoto_normal] | rw [Exit.noGoto_ret] | rw [Exit.noGoto_exit]))
          refine any_turn 8 (by kernel_rfl) (by rfl) ?_
          repeat' (first | ((with_reducible refine Ad ?_); first | ((first | refine Bn Aa ?_ | refine Bf Aa Ab hS ?_ (hv := by first | rfl | exact Bl | (rw [Array.getElem?_toList]; first | exact hcut.1 | exact hcut.2)) | refine Dp Aa (by first | exact ((hS).far hb).1) ?_ (hv := by first | rfl | exact Bl | (rw [Array.getElem?_toList]; first | exact hcut.1 | exact hcut.2))) <;> refine Ac ?_)) | ((fail_if_success (with_reducible refine Ad ?_)); first | go_step | go_step3 | rw [Exit.noGoto_normal] | rw [Exit.noGoto_ret] | rw [Exit.noGoto_exit]))
          (refine any_pull 10 (by kernel_rfl) (by rfl) (by rfl) (by exact fun _ _ _ _ h => h) ?_; apply Exists.intro; refine ⟨fun C w' => ?_, ?_⟩; (focus (first | exact Ci | exact Cf)); refine wa_put ?_)
          (refine any_pull 11 (by kernel_rfl) (by rfl) (by rfl) (by exact fun _ _ _ _ h => h) ?_; apply Exists.intro; refine ⟨fun C w' => ?_, ?_⟩; (focus (first | exact Ch)); refine wa_put ?_)
          refine any_turn 12 (by kernel_rfl) (by rfl) ?_
          repeat' (first | ((with_reducible refine Ad ?_); first | ((first | refine Bn Aa ?_ | refine Bf Aa Ab hS ?_ (hv := by first | rfl | exact Bl | (rw [Array.getElem?_toList]; first | exact hcut.1 | exact hcut.2)) | refine Dp Aa (by first | exact ((hS).far hb).1) ?_ (hv := by first | rfl | exact Bl | (rw [Array.getElem?_toList]; first | exact hcut.1 | exact hcut.2))) <;> refine Ac ?_)) | ((fail_if_success (with_reducible refine Ad ?_)); first | go_step | go_step3 | rw [Exit.noGoto_normal] | rw [Exit.noGoto_ret] | rw [Exit.noGoto_exit]))
          refine any_turn 13 (by kernel_rfl) (by rfl) ?_
          repeat' (first | ((with_reducible refine Ad ?_); first | ((first | refine Bn Aa ?_ | refine Bk Aa ?_) <;> refine Ac ?_) | ((first | refine Ba Aa Ab hS ?_ | refine Bd Aa Ab hS ?_); clear hS; intro b w hS; refine Ac ?_)) | ((fail_if_success (with_reducible refine Ad ?_)); first | go_step | go_step3 | rw [Exit.noGoto_normal] | rw [Exit.noGoto_ret] | rw [Exit.noGoto_exit]))
          refine any_turn 14 (by kernel_rfl) (by rfl) ?_
          refine s_appN (L := [_, _]) (m := 2) (xs := [((8 : Int), y1), (8, y2)]) hS ⟨g1, cp, sp, rfl, k1, k2, k3, rfl⟩ (by omega) (by rfl) (by rfl) (by rfl) (by rfl) (by rfl) ?_
          intro sv' Lr' w' hR' hS'
          rw [← hPP, List.append_assoc, ← hfn] at hR'
          obtain ⟨g2, cp2, sp2, rfl, j1, j2, j3, rfl⟩ := hR'
          refine Ac ?_
          replace hS := hS'
          simp only [List.cons_append, List.nil_append] at hS
          clear hS'
          repeat' (first | ((with_reducible refine Ad ?_); first | ((first | refine Bn Aa ?_) <;> refine Ac ?_)) | ((fail_if_success (with_reducible refine Ad ?_)); first | go_step | go_step3 | rw [Exit.noGoto_normal] | rw [Exit.noGoto_ret] | rw [Exit.noGoto_exit]))
          refine any_turn 15 (by kernel_rfl) (by rfl) ?_
          repeat' (first | ((with_reducible refine Ad ?_); first | ((first | refine Bn Aa ?_ | refine Az Aa ?_) <;> refine Ac ?_)) | ((fail_if_success (with_reducible refine Ad ?_)); first | go_step | go_step3 | rw [Exit.noGoto_normal] | rw [Exit.noGoto_ret] | rw [Exit.noGoto_exit]))
          refine any_done (by kernel_rfl) ?_
          repeat' (first | ((with_reducible refine Ad ?_); first | ((first | refine Bn Aa ?_ | refine Bm Aa ?_ | refine Az Aa ?_ | refine Bf Aa Ab hS ?_ | refine Bi Aa Ab hS ?_ | refine Ag Aa ?_ | refine Af Aa ?_ | refine Bs Aa ?_ | refine Ao Aa ?_ | refine Bw Aa ?_ | refine Be Aa ?_ | refine Bg Aa ?_ | refine Bv Aa (fun hc => ?_) (fun hc => ?_) | refine Ah Aa ?_ | refine Bu Aa ?_ | refine Bj Aa ?_ | refine Bk Aa ?_) <;> refine Ac ?_) | ((first | refine Bh Aa Ab hS ?_ | refine Bt Aa Ab hS ?_ | refine Ba Aa Ab hS ?_ | refine Bd Aa Ab hS ?_); clear hS; intro b w hS; refine Ac ?_) | ((first | refine Av Aa Ab hS ?_ | refine Au Aa Ab hS ?_ | refine Bb Aa Ab hS ?_); clear hS; intro w hS; refine Ac ?_)) | ((fail_if_success (with_reducible refine Ad ?_)); first | go_step | go_step3 | rw [Exit.noGoto_normal] | rw [Exit.noGoto_ret] | rw [Exit.noGoto_exit]))
          go_roundw
          case rel => exact ⟨k + 1, [_], by omega, by push_cast; rfl, ⟨g2, cp2, sp2, rfl, j1, j2, j3, rfl⟩, hS⟩
          case measure => first | (simp [intOf]; done) | (simp [intOf]; omega)
        · repeat' (first | ((with_reducible refine Ad ?_); first | ((first | refine Bn Aa ?_ | refine Bf Aa Ab hS ?_ (hv := by first | rfl | exact Bl | (rw [Array.getElem?_toList]; first | exact hcut.1 | exact hcut.2)) | refine Dp Aa (by first | exact ((hS).far hb).1) ?_ (hv := by first | rfl | exact Bl | (rw [Array.getElem?_toList]; first | exact hcut.1 | exact hcut.2))) <;> refine Ac ?_)) | ((fail_if_success (with_reducible refine Ad ?_)); first | go_step | go_step3 | rw [Exit.noGoto_normal] | rw [Exit.noGoto_ret] | rw [Exit.noGoto_exit]))
          (refine any_pull 10 (by kernel_rfl) (by rfl) (by rfl) (by exact fun _ _ _ _ h => h) ?_; apply Exists.intro; refine ⟨fun C w' => ?_, ?_⟩; (focus (first | exact Ci | exact Cf)); refine wa_put ?_)
          (refine any_pull 11 (by kernel_rfl) (by rfl) (by rfl) (by exact fun _ _ _ _ h => h) ?_; apply Exists.intro; refine ⟨fun C w' => ?_, ?_⟩; (focus (first | exact Ch)); refine wa_put ?_)
          refine any_turn2 6 12 (by kernel_rfl) (by rfl) (by rfl) ?_ ?_
          · repeat' (first | ((with_reducible refine Ad ?_); first | ((first | refine Bn Aa ?_ | refine Bf Aa Ab hS ?_ (hv := by first | rfl | exact Bl | (rw [Array.getElem?_toList]; first | exact hcut.1 | exact hcut.2)) | refine Dp Aa (by first | exact ((hS).far hb).1) ?_ (hv := by first | rfl | exact Bl | (rw [Array.getElem?_toList]; first | exact hcut.1 | exact hcut.2))) <;> refine Ac ?_)) | ((fail_if_success (with_reducible refine Ad ?_)); first | go_step | go_step3 | rw [Exit.noGoto_normal] | rw [Exit.noGoto_ret] | rw [Exit.noGoto_exit]))
            refine any_turn 12 (by kernel_rfl) (by rfl) ?_
            repeat' (first | ((with_reducible refine Ad ?_); first | ((first | refine Bn Aa ?_ | refine Bf Aa Ab hS ?_ (hv := by first | rfl | exact Bl | (rw [Array.getElem?_toList]; first | exact hcut.1 | exact hcut.2)) | refine Dp Aa (by first | exact ((hS).far hb).1) ?_ (hv := by first | rfl | exact Bl | (rw [Array.getElem?_toList]; first | exact hcut.1 | exact hcut.2))) <;> refine Ac ?_)) | ((fail_if_success (with_reducible refine Ad ?_)); first | go_step | go_step3 | rw [Exit.noGoto_normal] | rw [Exit.noGoto_ret] | rw [Exit.noGoto_exit]))
            refine any_turn 13 (by kernel_rfl) (by rfl) ?_
            repeat' (first | ((with_reducible refine Ad ?_); first | ((first | refine Bn Aa ?_ | refine Bk Aa ?_) <;> refine Ac ?_) | ((first | refine Ba Aa Ab hS ?_ | refine Bd Aa Ab hS ?_); clear hS; intro b w hS; refine Ac ?_)) | ((fail_if_success (with_reducible refine Ad ?_)); first | go_step | go_step3 | rw [Exit.noGoto_normal] | rw [Exit.noGoto_ret] | rw [Exit.noGoto_exit]))
            refine any_turn 14 (by kernel_rfl) (by rfl) ?_
            refine s_appN (L := [_, _]) (m := 2) (xs := [((8 : Int), y1), (8, y2)]) hS ⟨g1, cp, sp, rfl, k1, k2, k3, rfl⟩ (by omega) (by rfl) (by rfl) (by rfl) (by rfl) (by rfl) ?_
            intro sv' Lr' w' hR' hS'
            rw [← hPP, List.append_assoc, ← hfn] at hR'
            obtain ⟨g2, cp2, sp2, rfl, j1, j2, j3, rfl⟩ := hR'
            refine Ac ?_
            replace hS := hS'
            simp only [List.cons_append, List.nil_append] at hS
            clear hS'
            repeat' (first | ((with_reducible refine Ad ?_); first | ((first | refine Bn Aa ?_) <;> refine Ac ?_)) | ((fail_if_success (with_reducible refine Ad ?_)); first | go_step | go_step3 | rw [Exit.noGoto_normal] | rw [Exit.noGoto_ret] | rw [Exit.noGoto_exit]))
            refine any_turn 15 (by kernel_rfl) (by rfl) ?_
            repeat' (first | ((with_reducible refine Ad ?_); first | ((first | refine Bn Aa ?_ | refine Az Aa ?_) <;> refine Ac ?_)) | ((fail_if_success (with_reducible refine Ad ?_)); first | go_step | go_step3 | rw [Exit.noGoto_normal] | rw [Exit.noGoto_ret] | rw [Exit.noGoto_exit]))
            refine any_done (by kernel_rfl) ?_
            repeat' (first | ((with_reducible refine Ad ?_); first | ((first | refine Bn Aa ?_ | refine Bm Aa ?_ | refine Az Aa ?_ | refine Bf Aa Ab hS ?_ | refine Bi Aa Ab hS ?_ | refine Ag Aa ?_ | refine Af Aa ?_ | refine Bs Aa ?_ | refine Ao Aa ?_ | refine Bw Aa ?_ | refine Be Aa ?_ | refine Bg Aa ?_ | refine Bv Aa (fun hc => ?_) (fun hc => ?_) | refine Ah Aa ?_ | refine Bu Aa ?_ | refine Bj Aa ?_ | refine Bk Aa ?_) <;> refine Ac ?_) | ((first | refine Bh Aa Ab hS ?_ | refine Bt Aa Ab hS ?_ | refine Ba Aa Ab hS ?_ | refine Bd Aa Ab hS ?_); clear hS; intro b w hS; refine Ac ?_) | ((first | refine Av Aa Ab hS ?_ | refine Au Aa Ab hS ?_ | refine Bb Aa Ab hS ?_); clear hS; intro w hS; refine Ac ?_)) | ((fail_if_success (with_reducible refine Ad ?_)); first | go_step | go_step3 | rw [Exit.noGoto_normal] | rw [Exit.noGoto_ret] | rw [Exit.noGoto_exit]))
            go_roundw
            case rel => exact ⟨k + 1, [_], by omega, by push_cast; rfl, ⟨g2, cp2, sp2, rfl, j1, j2, j3, rfl⟩, hS⟩
            case measure => first | (simp [intOf]; done) | (simp [intOf]; omega)
          · repeat' (first | ((with_reducible refine Ad ?_); first | ((first | refine Bn Aa ?_ | refine Bf Aa Ab hS ?_ (hv := by first | rfl | exact Bl | (rw [Array.getElem?_toList]; first | exact hcut.1 | exact hcut.2)) | refine Dp Aa (by first | exact ((hS).far hb).1) ?_ (hv := by first | rfl | exact Bl | (rw [Array.getElem?_toList]; first | exact hcut.1 | exact hcut.2))) <;> refine Ac ?_)) | ((fail_if_success (with_reducible refine Ad ?_)); first | go_step | go_step3 | rw [Exit.noGoto_normal] | rw [Exit.noGoto_ret] | rw [Exit.noGoto_exit]))
            refine any_turn 6 (by kernel_rfl) (by rfl) ?_
            repeat' (first | ((with_reducible refine Ad ?_); first | ((first | refine Bn Aa ?_ | refine Bf Aa Ab hS ?_ (hv := by first | rfl | exact Bl | (rw [Array.getElem?_toList]; first | exact hcut.1 | exact hcut.2)) | refine Dp Aa (by first | exact ((hS).far hb).1) ?_ (hv := by first | rfl | exact Bl | (rw [Array.getElem?_toList]; first | exact hcut.1 | exact hcut.2))) <;> refine Ac ?_)) | ((fail_if_success (with_reducible refine Ad ?_)); first | go_step | go_step3 | rw [Exit.noGoto_normal] | rw [Exit.noGoto_ret] | rw [Exit.noGoto_exit]))
            refine any_turn 13 (by kernel_rfl) (by rfl) ?_
            repeat' (first | ((with_reducible refine Ad ?_); first | ((first | refine Bn Aa ?_ | refine Bk Aa ?_) <;> refine Ac ?_) | ((first | refine Ba Aa Ab hS ?_ | refine Bd Aa Ab hS ?_); clear hS; intro b w hS; refine Ac ?_)) | ((fail_if_success (with_reducible refine Ad ?_)); first | go_step | go_step3 | rw [Exit.noGoto_normal] | rw [Exit.noGoto_ret] | rw [Exit.noGoto_exit]))
            refine any_turn 14 (by kernel_rfl) (by rfl) ?_
            refine s_appN (L := [_, _]) (m := 2) (xs := [((8 : Int), y1), (8, y2)]) hS ⟨g1, cp, sp, rfl, k1, k2, k3, rfl⟩ (by omega) (by rfl) (by rfl) (by rfl) (by rfl) (by rfl) ?_
            intro sv' Lr' w' hR' hS'
            rw [← hPP, List.append_assoc, ← hfn] at hR'
            obtain ⟨g2, cp2, sp2, rfl, j1, j2, j3, rfl⟩ := hR'
            refine Ac ?_
            replace hS := hS'
            simp only [List.cons_append, List.nil_append] at hS
            clear hS'
            repeat' (first | ((with_reducible refine Ad ?_); first | ((first | refine Bn Aa ?_) <;> refine Ac ?_)) | ((fail_if_success (with_reducible refine Ad ?_)); first | go_step | go_step3 | rw [Exit.noGoto_normal] | rw [Exit.noGoto_ret] | rw [Exit.noGoto_exit]))
            refine any_turn 15 (by kernel_rfl) (by rfl) ?_
            repeat' (first | ((with_reducible refine Ad ?_); first | ((first | refine Bn Aa ?_ | refine Az Aa ?_) <;> refine Ac ?_)) | ((fail_if_success (with_reducible refine Ad ?_)); first | go_step | go_step3 | rw [Exit.noGoto_normal] | rw [Exit.noGoto_ret] | rw [Exit.noGoto_exit]))
            refine any_done (by kernel_rfl) ?_
            repeat' (first | ((with_reducible refine Ad ?_); first | ((first | refine Bn Aa ?_ | refine Bm Aa ?_ | refine Az Aa ?_ | refine Bf Aa Ab hS ?_ | refine Bi Aa Ab hS ?_ | refine Ag Aa ?_ | refine Af Aa ?_ | refine Bs Aa ?_ | refine Ao Aa ?_ | refine Bw Aa ?_ | refine Be Aa ?_ | refine Bg Aa ?_ | refine Bv Aa (fun hc => ?_) (fun hc => ?_) | refine Ah Aa ?_ | refine Bu Aa ?_ | refine Bj Aa ?_ | refine Bk Aa ?_) <;> refine Ac ?_) | ((first | refine Bh Aa Ab hS ?_ | refine Bt Aa Ab hS ?_ | refine Ba Aa Ab hS ?_ | refine Bd Aa Ab hS ?_); clear hS; intro b w hS; refine Ac ?_) | ((first | refine Av Aa Ab hS ?_ | refine Au Aa Ab hS ?_ | refine Bb Aa Ab hS ?_); clear hS; intro w hS; refine Ac ?_)) | ((fail_if_success (with_reducible refine Ad ?_)); first | go_step | go_step3 | rw [Exit.noGoto_normal] | rw [Exit.noGoto_ret] | rw [Exit.noGoto_exit]))
            go_roundw
            case rel => exact ⟨k + 1, [_], by omega, by push_cast; rfl, ⟨g2, cp2, sp2, rfl, j1, j2, j3, rfl⟩, hS⟩
            case measure => first | (simp [intOf]; done) | (simp [intOf]; omega)
      · repeat' (first | ((with_reducible refine Ad ?_); first | ((first | refine Bn Aa ?_ | refine Bf Aa Ab hS ?_ (hv := by first | rfl | exact Bl | (rw [Array.getElem?_toList]; first | exact hcut.1 | exact hcut.2)) | refine Dp Aa (by first | exact ((hS).far hb).1) ?_ (hv := by first | rfl | exact Bl | (rw [Array.getElem?_toList]; first | exact hcut.1 | exact hcut.2))) <;> refine Ac ?_)) | ((fail_if_success (with_reducible refine Ad ?_)); first | go_step | go_step3 | rw [Exit.noGoto_normal] | rw [Exit.noGoto_ret] | rw [Exit.noGoto_exit]))
        (refine any_pull 10 (by kernel_rfl) (by rfl) (by rfl) (by exact fun _ _ _ _ h => h) ?_; apply Exists.intro; refine ⟨fun C w' => ?_, ?_⟩; (focus (first | exact Ci | exact Cf)); refine wa_put ?_)
        (refine any_pull 11 (by kernel_rfl) (by rfl) (by rfl) (by exact fun _ _ _ _ h => h) ?_; apply Exists.intro; refine ⟨fun C w' => ?_, ?_⟩; (focus (first | exact Ch)); refine wa_put ?_)
        refine any_turn2 2 12 (by kernel_rfl) (by rfl) (by rfl) ?_ ?_
        · repeat' (first | ((with_reducible refine Ad ?_); first | ((first | refine Bn Aa ?_ | refine Bf Aa Ab hS ?_ (hv := by first | rfl | exact Bl | (rw [Array.getElem?_toList]; first | exact hcut.1 | exact hcut.2)) | refine Dp Aa (by first | exact ((hS).far hb).1) ?_ (hv := by first | rfl | exact Bl | (rw [Array.getElem?_toList]; first | exact hcut.1 | exact hcut.2))) <;> refine Ac ?_)) | ((fail_if_success (with_reducible refine Ad ?_)); first | go_step | go_step3 | rw [Exit.noGoto_normal] | rw [Exit.noGoto_ret] | rw [Exit.noGoto_exit]))
          (refine any_pull 4 (by kernel_rfl) (by rfl) (by rfl) (by exact fun _ _ _ _ h => h) ?_; apply Exists.intro; refine ⟨fun C w' => ?_, ?_⟩; (focus (first | exact Ci | exact Cf)); refine wa_put ?_)
          (refine any_pull 5 (by kernel_rfl) (by rfl) (by rfl) (by exact fun _ _ _ _ h => h) ?_; apply Exists.intro; refine ⟨fun C w' => ?_, ?_⟩; (focus (first | exact Ch)); refine wa_put ?_)
          refine any_turn2 6 12 (by kernel_rfl) (by rfl) (by rfl) ?_ ?_
          · repeat' (first | ((with_reducible refine Ad ?_); first | ((first | refine Bn Aa ?_ | refine Bf Aa Ab hS ?_ (hv := by first | rfl | exact Bl | (rw [Array.getElem?_toList]; first | exact hcut.1 | exact hcut.2)) | refine Dp Aa (by first | exact ((hS).far hb).1) ?_ (hv := by first | rfl | exact Bl | (rw [Array.getElem?_toList]; first | exact hcut.1 | exact hcut.2))) <;> refine Ac ?_)) | ((fail_if_success (with_reducible refine Ad ?_)); first | go_step | go_step3 | rw [Exit.noGoto_normal] | rw [Exit.noGoto_ret] | rw [Exit.noGoto_exit]))
            refine any_turn 12 (by kernel_rfl) (by rfl) ?_
            repeat' (first | ((with_reducible refine Ad ?_); first | ((first | refine Bn Aa ?_ | refine Bf Aa Ab hS ?_ (hv := by first | rfl | exact Bl | (rw [Array.getElem?_toList]; first | exact hcut.1 | exact hcut.2)) | refine Dp Aa (by first | exact ((hS).far hb).1) ?_ (hv := by first | rfl | exact Bl | (rw [Array.getElem?_toList]; first | exact hcut.1 | exact hcut.2))) <;> refine Ac ?_)) | ((fail_if_success (with_reducible refine Ad ?_)); first | go_step | go_step3 | rw [Exit.noGoto_normal] | rw [Exit.noGoto_ret] | rw [Exit.noGoto_exit]))
            refine any_turn 13 (by kernel_rfl) (by rfl) ?_
            repeat' (first | ((with_reducible refine Ad ?_); first | ((first | refine Bn Aa ?_ | refine Bk Aa ?_) <;> refine Ac ?_) | ((first | refine Ba Aa Ab hS ?_ | refine Bd Aa Ab hS ?_); clear hS; intro b w hS; refine Ac ?_)) | ((fail_if_success (with_reducible refine Ad ?_)); first | go_step | go_step3 | rw [Exit.noGoto_normal] | rw [Exit.noGoto_ret] | rw [Exit.noGoto_exit]))
            refine any_turn 14 (by kernel_rfl) (by rfl) ?_
            refine s_appN (L := [_, _]) (m := 2) (xs := [((8 : Int), y1), (8, y2)]) hS ⟨g1, cp, sp, rfl, k1, k2, k3, rfl⟩ (by omega) (by rfl) (by rfl) (by rfl) (by rfl) (by rfl) ?_
            intro sv' Lr' w' hR' hS'
            rw [← hPP, List.append_assoc, ← hfn] at hR'
            obtain ⟨g2, cp2, sp2, rfl, j1, j2, j3, rfl⟩ := hR'
            refine Ac ?_
            replace hS := hS'
            simp only [List.cons_append, List.nil_append] at hS
            clear hS'
            repeat' (first | ((with_reducible refine Ad ?_); first | ((first | refine Bn Aa ?_) <;> refine Ac ?_)) | ((fail_if_success (with_reducible refine Ad ?_)); first | go_step | go_step3 | rw [Exit.noGoto_normal] | rw [Exit.noGoto_ret] | rw [Exit.noGoto_exit]))
            refine any_turn 15 (by kernel_rfl) (by rfl) ?_
            repeat' (first | ((with_reducible refine Ad ?_); first | ((first | refine Bn Aa ?_ | refine Az Aa ?_) <;> refine Ac ?_)) | ((fail_if_success (with_reducible refine Ad ?_)); first | go_step | go_step3 | rw [Exit.noGoto_normal] | rw [Exit.noGoto_ret] | rw [Exit.noGoto_exit]))
            refine any_done (by kernel_rfl) ?_
            repeat' (first | ((with_reducible refine Ad ?_); first | ((first | refine Bn Aa ?_ | refine Bm Aa ?_ | refine Az Aa ?_ | refine Bf Aa Ab hS ?_ | refine Bi Aa Ab hS ?_ | refine Ag Aa ?_ | refine Af Aa ?_ | refine Bs Aa ?_ | refine Ao Aa ?_ | refine Bw Aa ?_ | refine Be Aa ?_ | refine Bg Aa ?_ | refine Bv Aa (fun hc => ?_) (fun hc => ?_) | refine Ah Aa ?_ | refine Bu Aa ?_ | refine Bj Aa ?_ | refine Bk Aa ?_) <;> refine Ac ?_) | ((first | refine Bh Aa Ab hS ?_ | refine Bt Aa Ab hS ?_ | refine Ba Aa Ab hS ?_ | refine Bd Aa Ab hS ?_); clear hS; intro b w hS; refine Ac ?_) | ((first | refine Av Aa Ab hS ?_ | refine Au Aa Ab hS ?_ | refine Bb Aa Ab hS ?_); clear hS; intro w hS; refine Ac ?_)) | ((fail_if_success (with_reducible refine Ad ?_)); first | go_step | go_step3 | rw [Exit.noGoto_normal] | rw [Exit.noGoto_ret] | rw [Exit.noGoto_exit]))
            go_roundw
            case rel => exact ⟨k + 1, [_], by omega, by push_cast; rfl, ⟨g2, cp2, sp2, rfl, j1, j2, j3, rfl⟩, hS⟩
            case measure => first | (simp [intOf]; done) | (simp [intOf]; omega)
          · repeat' (first | ((with_reducible refine Ad ?_); first | ((first | refine Bn Aa ?_ | refine Bf Aa Ab hS ?_ (hv := by first | rfl | exact Bl | (rw [Array.getElem?_toList]; first | exact hcut.1 | exact hcut.2)) | refine Dp Aa (by first | exact ((hS).far hb).1) ?_ (hv := by first | rfl | exact Bl | (rw [Array.getElem?_toList]; first | exact hcut.1 | exact hcut.2))) <;> refine Ac ?_)) | ((fail_if_success (with_reducible refine Ad ?_)); first | go_step | go_step3 | rw [Exit.noGoto_normal] | rw [Exit.noGoto_ret] | rw [Exit.noGoto_exit]))
            refine any_turn 6 (by kernel_rfl) (by rfl) ?_
            repeat' (first | ((with_reducible refine Ad ?_); first | ((first | refine Bn Aa ?_ | refine Bf Aa Ab hS ?_ (hv := by first | rfl | exact Bl | (rw [Array.getElem?_toList]; first | exact hcut.1 | exact hcut.2)) | refine Dp Aa (by first | exact ((hS).far hb).1) ?_ (hv := by first | rfl | exact Bl | (rw [Array.getElem?_toList]; first | exact hcut.1 | exact hcut.2))) <;> refine Ac ?_)) | ((fail_if_success (with_reducible refine Ad ?_)); first | go_step | go_step3 | rw [Exit.noGoto_normal] | rw [Exit.noGoto_ret] | rw [Exit.noGoto_exit]))
            refine any_turn 13 (by kernel_rfl) (by rfl) ?_
            repeat' (first | ((with_reducible refine Ad ?_); first | ((first | refine Bn Aa ?_ | refine Bk Aa ?_) <;> refine Ac ?_) | ((first | refine Ba Aa Ab hS ?_ | refine Bd Aa Ab hS ?_); clear hS; intro b w hS; refine Ac ?_)) | ((fail_if_success (with_reducible refine Ad ?_)); first | go_step | go_step3 | rw [Exit.noGoto_normal] | rw [Exit.noGoto_ret] | rw [Exit.noGoto_exit]))
            refine any_turn 14 (by kernel_rfl) (by rfl) ?_
            refine s_appN (L := [_, _]) (m := 2) (xs := [((8 : Int), y1), (8, y2)]) hS ⟨g1, cp, sp, rfl, k1, k2, k3, rfl⟩ (by omega) (by rfl) (by rfl) (by rfl) (by rfl) (by rfl) ?_
            intro sv' Lr' w' hR' hS'
            rw [← hPP, List.append_assoc, ← hfn] at hR'
            obtain ⟨g2, cp2, sp2, rfl, j1, j2, j3, rfl⟩ := hR'
            refine Ac ?_
            replace hS := hS'
            simp only [List.cons_append, List.nil_append] at hS
            clear hS'
            repeat' (first | ((with_reducible refine Ad ?_); first | ((first | refine Bn Aa ?_) <;> refine Ac ?_)) | ((fail_if_success (with_reducible refine Ad ?_)); first | go_step | go_step3 | rw [Exit.noGoto_normal] | rw [Exit.noGoto_ret] | rw [Exit.noGoto_exit]))
            refine any_turn 15 (by kernel_rfl) (by rfl) ?_
            repeat' (first | ((with_reducible refine Ad ?_); first | ((first | refine Bn Aa ?_ | refine Az Aa ?_) <;> refine Ac ?_)) | ((fail_if_success (with_reducible refine Ad ?_)); first | go_step | go_step3 | rw [Exit.noGoto_normal] | rw [Exit.noGoto_ret] | rw [Exit.noGoto_exit]))
            refine any_done (by kernel_rfl) ?_
            repeat' (first | ((with_reducible refine Ad ?_); first | ((first | refine Bn Aa ?_ | refine Bm Aa ?_ | refine Az Aa ?_ | refine Bf Aa Ab hS ?_ | refine Bi Aa Ab hS ?_ | refine Ag Aa ?_ | refine Af Aa ?_ | refine Bs Aa ?_ | refine Ao Aa ?_ | refine Bw Aa ?_ | refine Be Aa ?_ | refine Bg Aa ?_ | refine Bv Aa (fun hc => ?_) (fun hc => ?_) | refine Ah Aa ?_ | refine Bu Aa ?_ | refine Bj Aa ?_ | refine Bk Aa ?_) <;> refine Ac ?_) | ((first | refine Bh Aa Ab hS ?_ | refine Bt Aa Ab hS ?_ | refine Ba Aa Ab hS ?_ | refine Bd Aa Ab hS ?_); clear hS; intro b w hS; refine Ac ?_) | ((first | refine Av Aa Ab hS ?_ | refine Au Aa Ab hS ?_ | refine Bb Aa Ab hS ?_); clear hS; intro w hS; refine Ac ?_)) | ((fail_if_success (with_reducible refine Ad ?_)); first | go_step | go_step3 | rw [Exit.noGoto_normal] | rw [Exit.noGoto_ret] | rw [Exit.noGoto_exit]))
            go_roundw
            case rel => exact ⟨k + 1, [_], by omega, by push_cast; rfl, ⟨g2, cp2, sp2, rfl, j1, j2, j3, rfl⟩, hS⟩
            case measure => first | (simp [intOf]; done) | (simp [intOf]; omega)
        · repeat' (first | ((with_reducible refine Ad ?_); first | ((first | refine Bn Aa ?_ | refine Bf Aa Ab hS ?_ (hv := by first | rfl | exact Bl | (rw [Array.getElem?_toList]; first | exact hcut.1 | exact hcut.2)) | refine Dp Aa (by first | exact ((hS).far hb).1) ?_ (hv := by first | rfl | exact Bl | (rw [Array.getElem?_toList]; first | exact hcut.1 | exact hcut.2))) <;> refine Ac ?_)) | ((fail_if_success (with_reducible refine Ad ?_)); first | go_step | go_step3 | rw [Exit.noGoto_normal] | rw [Exit.noGoto_ret] | rw [Exit.noGoto_exit]))
          refine any_turn 2 (by kernel_rfl) (by rfl) ?_
          repeat' (first | ((with_reducible refine Ad ?_); first | ((first | refine Bn Aa ?_ | refine Bf Aa Ab hS ?_ (hv := by first | rfl | exact Bl | (rw [Array.getElem?_toList]; first | exact hcut.1 | exact hcut.2)) | refine Dp Aa (by first | exact ((hS).far hb).1) ?_ (hv := by first | rfl | exact Bl | (rw [Array.getElem?_toList]; first | exact hcut.1 | exact hcut.2))) <;> refine Ac ?_)) | ((fail_if_success (with_reducible refine Ad ?_)); first | go_step | go_step3 | rw [Exit.noGoto_normal] | rw [Exit.noGoto_ret] | rw [Exit.noGoto_exit]))
          (refine any_pull 4 (by kernel_rfl) (by rfl) (by rfl) (by exact fun _ _ _ _ h => h) ?_; apply Exists.intro; refine ⟨fun C w' => ?_, ?_⟩; (focus (first | exact Ci | exact Cf)); refine wa_put ?_)
          (refine any_pull 5 (by kernel_rfl) (by rfl) (by rfl) (by exact fun _ _ _ _ h => h) ?_; apply Exists.intro; refine ⟨fun C w' => ?_, ?_⟩; (focus (first | exact Ch)); refine wa_put ?_)
          refine any_turn 6 (by kernel_rfl) (by rfl) ?_
          repeat' (first | ((with_reducible refine Ad ?_); first | ((first | refine Bn Aa ?_ | refine Bf Aa Ab hS ?_ (hv := by first | rfl | exact Bl | (rw [Array.getElem?_toList]; first | exact hcut.1 | exact hcut.2)) | refine Dp Aa (by first | exact ((hS).far hb).1) ?_ (hv := by first | rfl | exact Bl | (rw [Array.getElem?_toList]; first | exact hcut.1 | exact hcut.2))) <;> refine Ac ?_)) | ((fail_if_success (with_reducible refine Ad ?_)); first | go_step | go_step3 | rw [Exit.noGoto_normal] | rw [Exit.noGoto_ret] | rw [Exit.noGoto_exit]))
          refine any_turn 13 (by kernel_rfl) (by rfl) ?_
          repeat' (first | ((with_reducible refine Ad ?_); first | ((first | refine Bn Aa ?_ | refine Bk Aa ?_) <;> refine Ac ?_) | ((first | refine Ba Aa Ab hS ?_ | refine Bd Aa Ab hS ?_); clear hS; intro b w hS; refine Ac ?_)) | ((fail_if_success (with_reducible refine Ad ?_)); first | go_step | go_step3 | rw [Exit.noGoto_normal] | rw [Exit.noGoto_ret] | rw [Exit.noGoto_exit]))
          refine any_turn 14 (by kernel_rfl) (by rfl) ?_
          refine s_appN (L := [_, _]) (m := 2) (xs := [((8 : Int), y1), (8, y2)]) hS ⟨g1, cp, sp, rfl, k1, k2, k3, rfl⟩ (by omega) (by rfl) (by rfl) (by rfl) (by rfl) (by rfl) ?_
          intro sv' Lr' w' hR' hS'
          rw [← hPP, List.append_assoc, ← hfn] at hR'
          obtain ⟨g2, cp2, sp2, rfl, j1, j2, j3, rfl⟩ := hR'
          refine Ac ?_
          replace hS := hS'
          simp only [List.cons_append, List.nil_append] at hS
          clear hS'
          repeat' (first | ((with_reducible refine Ad ?_); first | ((first | refine Bn Aa ?_) <;> refine Ac ?_)) | ((fail_if_success (with_reducible refine Ad ?_)); first | go_step | go_step3 | rw [Exit.noGoto_normal] | rw [Exit.noGoto_ret] | rw [Exit.noGoto_exit]))
          refine any_turn 15 (by kernel_rfl) (by rfl) ?_
          repeat' (first | ((with_reducible refine Ad ?_); first | ((first | refine Bn Aa ?_ | refine Az Aa ?_) <;> refine Ac ?_)) | ((fail_if_success (with_reducible refine Ad ?_)); first | go_step | go_step3 | rw [Exit.noGoto_normal] | rw [Exit.noGoto_ret] | rw [Exit.noGoto_exit]))
          refine any_done (by kernel_rfl) ?_
          repeat' (first | ((with_reducible refine Ad ?_); first | ((first | refine Bn Aa ?_ | refine Bm Aa ?_ | refine Az Aa ?_ | refine Bf Aa Ab hS ?_ | refine Bi Aa Ab hS ?_ | refine Ag Aa ?_ | refine Af Aa ?_ | refine Bs Aa ?_ | refine Ao Aa ?_ | refine Bw Aa ?_ | refine Be Aa ?_ | refine Bg Aa ?_ | refine Bv Aa (fun hc => ?_) (fun hc => ?_) | refine Ah Aa ?_ | refine Bu Aa ?_ | refine Bj Aa ?_ | refine Bk Aa ?_) <;> refine Ac ?_) | ((first | refine Bh Aa Ab hS ?_ | refine Bt Aa Ab hS ?_ | refine Ba Aa Ab hS ?_ | refine Bd Aa Ab hS ?_); clear hS; intro b w hS; refine Ac ?_) | ((first | refine Av Aa Ab hS ?_ | refine Au Aa Ab hS ?_ | refine Bb Aa Ab hS ?_); clear hS; intro w hS; refine Ac ?_)) | ((fail_if_success (with_reducible refine Ad ?_)); first | go_step | go_step3 | rw [Exit.noGoto_normal] | rw [Exit.noGoto_ret] | rw [Exit.noGoto_exit]))
          go_roundw
          case rel => exact ⟨k + 1, [_], by omega, by push_cast; rfl, ⟨g2, cp2, sp2, rfl, j1, j2, j3, rfl⟩, hS⟩
          case measure => first | (simp [intOf]; done) | (simp [intOf]; omega)
    · obtain rfl : k = l.length := by omega
      rw [List.take_length, hNP2] at hR
      clear hNP2 hv
      obtain ⟨gl, cp, sp, rfl, k1, k2, k3, rfl⟩ := hR
      simp only [List.cons_append, List.nil_append] at hS
      repeat' (first | ((with_reducible refine Ad ?_); first | ((first | refine Bn Aa ?_ | refine Bm Aa ?_ | refine Az Aa ?_ | refine Bf Aa Ab hS ?_ | refine Bi Aa Ab hS ?_ | refine Ag Aa ?_ | refine Af Aa ?_ | refine Bs Aa ?_ | refine Ao Aa ?_ | refine Bw Aa ?_ | refine Be Aa ?_ | refine Bg Aa ?_ | refine Bv Aa (fun hc => ?_) (fun hc => ?_) | refine Ah Aa ?_ | refine Bu Aa ?_ | refine Bj Aa ?_ | refine Bk Aa ?_) <;> refine Ac ?_) | ((first | refine Bh Aa Ab hS ?_ | refine Bt Aa Ab hS ?_ | refine Ba Aa Ab hS ?_ | refine Bd Aa Ab hS ?_); clear hS; intro b w hS; refine Ac ?_) | ((first | refine Av Aa Ab hS ?_ | refine Au Aa Ab hS ?_ | refine Bb Aa Ab hS ?_); clear hS; intro w hS; refine Ac ?_)) | ((fail_if_success (with_reducible refine Ad ?_)); first | go_step | go_step3 | rw [Exit.noGoto_normal] | rw [Exit.noGoto_ret] | rw [Exit.noGoto_exit]))
      replace hS := hS.take 2
      simp only [List.take_succ_cons, List.take_zero] at hS
      go_loopw [4, 7, 8, 9] (fun u4 u7 u8 u9 wr => ∃ (k : Nat) (Lb : List Blk), k ≤ NP.length ∧ u7 = .int .i64 ((2 * k : Nat) : Int) ∧ BL (bytesR (NP.take k)) u4 Lb ∧ St w0 wr ((gl, (rgs NP ++ sp).toArray, 3) :: (br, bvs (zs 128), 55) :: Lb)) (fun _ u7 _ _ _ => 2 * NP.length - (intOf u7).toNat)
      case atStart => exact ⟨0, [], by omega, rfl, .inl ⟨rfl, rfl, rfl⟩, hS⟩
      case round =>
        obtain ⟨k, Lb, hk, rfl, hB, hS⟩ := hrel
        have hbn : (bytesR (NP.take k)).length ≤ 1000 := by
          have h1 := bytesR_len (l := NP.take k) fun p hp => hsz p (List.mem_of_mem_take hp)
          rw [List.length_take] at h1
          omega
        by_cases hlt : k < NP.length
        · have hcell := pair_cells NP sp
          have q1 := csz_reg hcell hlt
          have hc1 := who_cell hcell hlt
          have hc2 := key_cell hcell hlt
          have hsk := hsz _ (by rw [List.getD_eq_getElem?_getD, List.getElem?_eq_getElem hlt]; exact List.getElem_mem hlt : NP.getD k (0, 0) ∈ NP)
          obtain ⟨⟨y1, y2⟩, hy⟩ : ∃ y, NP.getD k (0, 0) = y := ⟨_, rfl⟩
          have hbx := bytes_next hlt hy
          rw [hy] at hc1 hc2 hsk
          dsimp only at hc1 hc2 hbx
          rw [Nat.zero_add, Nat.mul_comm k 2] at q1 hc1 hc2
          have hrl := rgs_len NP
          rcases hsk with e1 | ⟨e1, e2, e3⟩
          · dsimp only at e1
            subst e1
            rw [show beB (u64W y2) ((8 : Int).toNat) = beB (u64W y2) 8 from rfl] at hbx
            obtain ⟨p7, c7, rfl⟩ := hB.slice
            repeat' (first | ((with_reducible refine Ad ?_); first | ((first | refine Bn Aa ?_ | refine Bm Aa ?_ | refine Az Aa ?_ | refine Bf Aa Ab hS ?_ | refine Bi Aa Ab hS ?_ | refine Ag Aa ?_ | refine Af Aa ?_ | refine Bs Aa ?_ | refine Ao Aa ?_ | refine Bw Aa ?_ | refine Be Aa ?_ | refine Bg Aa ?_ | refine Bv Aa (fun hc => ?_) (fun hc => ?_) | refine Ah Aa ?_ | refine Bu Aa ?_ | refine Bj Aa ?_ | refine Bk Aa ?_) <;> refine Ac ?_) | ((first | refine Bh Aa Ab hS ?_ | refine Bt Aa Ab hS ?_ | refine Ba Aa Ab hS ?_ | refine Bd Aa Ab hS ?_); clear hS; intro b w hS; refine Ac ?_) | ((first | refine Av Aa Ab hS ?_ | refine Au Aa Ab hS ?_ | refine Bb Aa Ab hS ?_); clear hS; intro w hS; refine Ac ?_)) | ((fail_if_success (with_reducible refine Ad ?_)); first | go_step | go_step3 | rw [Exit.noGoto_normal] | rw [Exit.noGoto_ret] | rw [Exit.noGoto_exit]))
            refine any_start [0, 1, 2, 3, 4, 5, 6, 7, 8, 9, 10, 11, 12, 13, 14] (by kernel_rfl) (by kernel_rfl) ?_
            intro w hcq
            replace hS := hS.cls hcq
            clear hcq
            (refine any_pull 0 (by kernel_rfl) (by rfl) (by rfl) (by exact fun _ _ _ _ h => h) ?_; apply Exists.intro; refine ⟨fun C w' => ?_, ?_⟩; (focus (first | exact Dv)); refine wa_put ?_)
            (refine any_pull 1 (by kernel_rfl) (by rfl) (by rfl) (by exact fun _ _ _ _ h => h) ?_; apply Exists.intro; refine ⟨fun C w' => ?_, ?_⟩; (focus (first | exact Dv)); refine wa_put ?_)
            (refine any_pull 2 (by kernel_rfl) (by rfl) (by rfl) (by exact fun _ _ _ _ h => h) ?_; apply Exists.intro; refine ⟨fun C w' => ?_, ?_⟩; (focus (first | exact Ci | exact Cf)); refine wa_put ?_)
            (refine any_pull 4 (by kernel_rfl) (by rfl) (by rfl) (by exact fun _ _ _ _ h => h) ?_; apply Exists.intro; refine ⟨fun C w' => ?_, ?_⟩; (focus (first | exact Dv)); refine wa_put ?_)
            (refine any_pull 5 (by kernel_rfl) (by rfl) (by rfl) (by exact fun _ _ _ _ h => h) ?_; apply Exists.intro; refine ⟨fun C w' => ?_, ?_⟩; (focus (first | exact Dv)); refine wa_put ?_)
            (refine any_pull 6 (by kernel_rfl) (by rfl) (by rfl) (by exact fun _ _ _ _ h => h) ?_; apply Exists.intro; refine ⟨fun C w' => ?_, ?_⟩; (focus (first | exact Dy)); refine wa_put ?_)
            (refine any_pull 7 (by kernel_rfl) (by rfl) (by rfl) (by exact fun _ _ _ _ h => h) ?_; apply Exists.intro; refine ⟨fun C w' => ?_, ?_⟩; (focus (first | exact Ci | exact Cf)); refine wa_put ?_)
            refine any_turn2 3 8 (by kernel_rfl) (by rfl) (by rfl) ?_ ?_
            · repeat' (first | ((with_reducible refine Ad ?_); first | ((first | refine Bn Aa ?_ | refine Bf Aa Ab hS ?_ (hv := by first | rfl | exact Bl | (rw [Array.getElem?_toList]; first | exact hc1 | exact hc2))) <;> refine Ac ?_)) | ((fail_if_success (with_reducible refine Ad ?_)); first | go_step | go_step3 | rw [Exit.noGoto_normal] | rw [Exit.noGoto_ret] | rw [Exit.noGoto_exit]))
              refine any_turn 8 (by kernel_rfl) (by rfl) ?_
              repeat' (first | ((with_reducible refine Ad ?_); first | ((first | refine Bn Aa ?_ | refine Bf Aa Ab hS ?_ (hv := by first | rfl | exact Bl | (rw [Array.getElem?_toList]; first | exact hc1 | exact hc2))) <;> refine Ac ?_)) | ((fail_if_success (with_reducible refine Ad ?_)); first | go_step | go_step3 | rw [Exit.noGoto_normal] | rw [Exit.noGoto_ret] | rw [Exit.noGoto_exit]))
              refine any_turn 9 (by kernel_rfl) (by rfl) ?_
              refine s_call Aa (by rfl) (by rfl) (by rfl) (by rfl) (by rfl) (by infer_instance) (num_8 y2 _) ?_
              rintro e w2 ⟨sv2, rfl, ho, hBe⟩
              obtain ⟨p8, c8, rfl⟩ := ho.slice
              refine ⟨_, rfl, ?_⟩
              refine Ac ?_
              obtain ⟨Lb2, hB2, hS2⟩ := ho.join hS hBe
              replace hS := hS2
              clear hS2 ho hBe
              repeat' (first | ((with_reducible refine Ad ?_); first | ((first | refine Bn Aa ?_) <;> refine Ac ?_)) | ((fail_if_success (with_reducible refine Ad ?_)); first | go_step | go_step3 | rw [Exit.noGoto_normal] | rw [Exit.noGoto_ret] | rw [Exit.noGoto_exit]))
              (refine any_pull 10 (by kernel_rfl) (by rfl) (by rfl) (by exact fun _ _ _ _ h => h) ?_; apply Exists.intro; refine ⟨fun C w' => ?_, ?_⟩; (focus (first | exact Dv)); refine wa_put ?_)
              (refine any_pull 11 (by kernel_rfl) (by rfl) (by rfl) (by exact fun _ _ _ _ h => h) ?_; apply Exists.intro; refine ⟨fun C w' => ?_, ?_⟩; (focus (first | exact Co)); refine wa_put ?_)
              (refine any_pull 12 (by kernel_rfl) (by rfl) (by rfl) (by exact fun _ _ _ _ h => h) ?_; apply Exists.intro; refine ⟨fun C w' => ?_, ?_⟩; (focus (first | exact Co)); refine wa_put ?_)
              (refine any_pull 13 (by kernel_rfl) (by rfl) (by rfl) (by exact fun _ _ _ _ h => h) ?_; apply Exists.intro; refine ⟨fun C w' => ?_, ?_⟩; (focus (first | exact Cz)); refine wa_put ?_)
              (refine any_pull 14 (by kernel_rfl) (by rfl) (by rfl) (by exact fun _ _ _ _ h => h) ?_; apply Exists.intro; refine ⟨fun C w' => ?_, ?_⟩; (focus (first | exact Cz)); refine wa_put ?_)
              refine any_done (by kernel_rfl) ?_
              repeat' (first | ((with_reducible refine Ad ?_); first | ((first | refine Bn Aa ?_ | refine Bm Aa ?_ | refine Az Aa ?_ | refine Bf Aa Ab hS ?_ | refine Bi Aa Ab hS ?_ | refine Ag Aa ?_ | refine Af Aa ?_ | refine Bs Aa ?_ | refine Ao Aa ?_ | refine Bw Aa ?_ | refine Be Aa ?_ | refine Bg Aa ?_ | refine Bv Aa (fun hc => ?_) (fun hc => ?_) | refine Ah Aa ?_ | refine Bu Aa ?_ | refine Bj Aa ?_ | refine Bk Aa ?_) <;> refine Ac ?_) | ((first | refine Bh Aa Ab hS ?_ | refine Bt Aa Ab hS ?_ | refine Ba Aa Ab hS ?_ | refine Bd Aa Ab hS ?_); clear hS; intro b w hS; refine Ac ?_) | ((first | refine Av Aa Ab hS ?_ | refine Au Aa Ab hS ?_ | refine Bb Aa Ab hS ?_); clear hS; intro w hS; refine Ac ?_)) | ((fail_if_success (with_reducible refine Ad ?_)); first | go_step | go_step3 | rw [Exit.noGoto_normal] | rw [Exit.noGoto_ret] | rw [Exit.noGoto_exit]))
              rcases hB2 with ⟨_, e0, _⟩ | ⟨gn, cn, spn, en, n1, n2, n3, rfl⟩
              · exact absurd (congrArg List.length e0) (by rw [beB_len]; simp)
              simp only [Value.slice.injEq, true_and] at en
              obtain ⟨rfl, rfl⟩ := en
              simp only [List.cons_append, List.nil_append] at hS
              refine s_appL (L := [_, _]) (hS.perm (.cons _ (List.perm_append_comm (l₁ := [_, _])))) hB ⟨by omega, by rw [beB_len]; omega, by rw [beB_len]; omega⟩ (by rfl) (by rfl) (by rfl) (by rfl) ?_
              intro sv' Lr' w' hB' hS'
              rw [← hbx] at hB'
              obtain ⟨p9, c9, rfl⟩ := hB'.slice
              refine Ac ?_
              replace hS := St.perm hS' (List.perm_append_comm (l₂ := [_, _]))
              simp only [List.cons_append, List.nil_append] at hS
              clear hS'
              repeat' (first | ((with_reducible refine Ad ?_); first | ((first | refine Bn Aa ?_ | refine Bm Aa ?_ | refine Az Aa ?_ | refine Bf Aa Ab hS ?_ | refine Bi Aa Ab hS ?_ | refine Ag Aa ?_ | refine Af Aa ?_ | refine Bs Aa ?_ | refine Ao Aa ?_ | refine Bw Aa ?_ | refine Be Aa ?_ | refine Bg Aa ?_ | refine Bv Aa (fun hc => ?_) (fun hc => ?_) | refine Ah Aa ?_ | refine Bu Aa ?_ | refine Bj Aa ?_ | refine Bk Aa ?_) <;> refine Ac ?_) | ((first | refine Bh Aa Ab hS ?_ | refine Bt Aa Ab hS ?_ | refine Ba Aa Ab hS ?_ | refine Bd Aa Ab hS ?_); clear hS; intro b w hS; refine Ac ?_) | ((first | refine Av Aa Ab hS ?_ | refine Au Aa Ab hS ?_ | refine Bb Aa Ab hS ?_); clear hS; intro w hS; refine Ac ?_)) | ((fail_if_success (with_reducible refine Ad ?_)); first | go_step | go_step3 | rw [Exit.noGoto_normal] | rw [Exit.noGoto_ret] | rw [Exit.noGoto_exit]))
              go_roundw
              case rel => exact ⟨k + 1, Lr', by omega, by push_cast; rfl, hB', hS⟩
              case measure => first | (simp [intOf]; done) | (simp [intOf]; omega)
            · repeat' (first | ((with_reducible refine Ad ?_); first | ((first | refine Bn Aa ?_ | refine Bf Aa Ab hS ?_ (hv := by first | rfl | exact Bl | (rw [Array.getElem?_toList]; first | exact hc1 | exact hc2))) <;> refine Ac ?_)) | ((fail_if_success (with_reducible refine Ad ?_)); first | go_step | go_step3 | rw [Exit.noGoto_normal] | rw [Exit.noGoto_ret] | rw [Exit.noGoto_exit]))
              refine any_turn 3 (by kernel_rfl) (by rfl) ?_
              repeat' (first | ((with_reducible refine Ad ?_); first | ((first | refine Bn Aa ?_ | refine Bf Aa Ab hS ?_ (hv := by first | rfl | exact Bl | (rw [Array.getElem?_toList]; first | exact hc1 | exact hc2))) <;> refine Ac ?_)) | ((fail_if_success (with_reducible refine Ad ?_)); first | go_step | go_step3 | rw [Exit.noGoto_normal] | rw [Exit.noGoto_ret] | rw [Exit.noGoto_exit]))
              refine any_turn 9 (by kernel_rfl) (by rfl) ?_
              refine s_call Aa (by rfl) (by rfl) (by rfl) (by rfl) (by rfl) (by infer_instance) (num_8 y2 _) ?_
              rintro e w2 ⟨sv2, rfl, ho, hBe⟩
              obtain ⟨p8, c8, rfl⟩ := ho.slice
              refine ⟨_, rfl, ?_⟩
              refine Ac ?_
              obtain ⟨Lb2, hB2, hS2⟩ := ho.join hS hBe
              replace hS := hS2
              clear hS2 ho hBe
              repeat' (first | ((with_reducible refine Ad ?_); first | ((first | refine Bn Aa ?_) <;> refine Ac ?_)) | ((fail_if_success (with_reducible refine Ad ?_)); first | go_step | go_step3 | rw [Exit.noGoto_normal] | rw [Exit.noGoto_ret] | rw [Exit.noGoto_exit]))
              (refine any_pull 10 (by kernel_rfl) (by rfl) (by rfl) (by exact fun _ _ _ _ h => h) ?_; apply Exists.intro; refine ⟨fun C w' => ?_, ?_⟩; (focus (first | exact Dv)); refine wa_put ?_)
              (refine any_pull 11 (by kernel_rfl) (by rfl) (by rfl) (by exact fun _ _ _ _ h => h) ?_; apply Exists.intro; refine ⟨fun C w' => ?_, ?_⟩; (focus (first | exact Co)); refine wa_put ?_)
              (refine any_pull 12 (by kernel_rfl) (by rfl) (by rfl) (by exact fun _ _ _ _ h => h) ?_; apply Exists.intro; refine ⟨fun C w' => ?_, ?_⟩; (focus (first | exact Co)); refine wa_put ?_)
              (refine any_pull 13 (by kernel_rfl) (by rfl) (by rfl) (by exact fun _ _ _ _ h => h) ?_; apply Exists.intro; refine ⟨fun C w' => ?_, ?_⟩; (focus (first | exact Cz)); refine wa_put ?_)
              (refine any_pull 14 (by kernel_rfl) (by rfl) (by rfl) (by exact fun _ _ _ _ h => h) ?_; apply Exists.intro; refine ⟨fun C w' => ?_, ?_⟩; (focus (first | exact Cz)); refine wa_put ?_)
              refine any_done (by kernel_rfl) ?_
              repeat' (first | ((with_reducible refine Ad ?_); first | ((first | refine Bn Aa ?_ | refine Bm Aa ?_ | refine Az Aa ?_ | refine Bf Aa Ab hS ?_ | refine Bi Aa Ab hS ?_ | refine Ag Aa ?_ | refine Af Aa ?_ | refine Bs Aa ?_ | refine Ao Aa ?_ | refine Bw Aa ?_ | refine Be Aa ?_ | refine Bg Aa ?_ | refine Bv Aa (fun hc => ?_) (fun hc => ?_) | refine Ah Aa ?_ | refine Bu Aa ?_ | refine Bj Aa ?_ | refine Bk Aa ?_) <;> refine Ac ?_) | ((first | refine Bh Aa Ab hS ?_ | refine Bt Aa Ab hS ?_ | refine Ba Aa Ab hS ?_ | refine Bd Aa Ab hS ?_); clear hS; intro b w hS; refine Ac ?_) | ((first | refine Av Aa Ab hS ?_ | refine Au Aa Ab hS ?_ | refine Bb Aa Ab hS ?_); clear hS; intro w hS; refine Ac ?_)) | ((fail_if_success (with_reducible refine Ad ?_)); first | go_step | go_step3 | rw [Exit.noGoto_normal] | rw [Exit.noGoto_ret] | rw [Exit.noGoto_exit]))
              rcases hB2 with ⟨_, e0, _⟩ | ⟨gn, cn, spn, en, n1, n2, n3, rfl⟩
              · exact absurd (congrArg List.length e0) (by rw [beB_len]; simp)
              simp only [Value.slice.injEq, true_and] at en
              obtain ⟨rfl, rfl⟩ := en
              simp only [List.cons_append, List.nil_append] at hS
              refine s_appL (L := [_, _]) (hS.perm (.cons _ (List.perm_append_comm (l₁ := [_, _])))) hB ⟨by omega, by rw [beB_len]; omega, by rw [beB_len]; omega⟩ (by rfl) (by rfl) (by rfl) (by rfl) ?_
              intro sv' Lr' w' hB' hS'
              rw [← hbx] at hB'
              obtain ⟨p9, c9, rfl⟩ := hB'.slice
              refine Ac ?_
              replace hS := St.perm hS' (List.perm_append_comm (l₂ := [_, _]))
              simp only [List.cons_append, List.nil_append] at hS
              clear hS'
              repeat' (first | ((with_reducible refine Ad ?_); first | ((first | refine Bn Aa ?_ | refine Bm Aa ?_ | refine Az Aa ?_ | refine Bf Aa Ab hS ?_ | refine Bi Aa Ab hS ?_ | refine Ag Aa ?_ | refine Af Aa ?_ | refine Bs Aa ?_ | refine Ao Aa ?_ | refine Bw Aa ?_ | refine Be Aa ?_ | refine Bg Aa ?_ | refine Bv Aa (fun hc => ?_) (fun hc => ?_) | refine Ah Aa ?_ | refine Bu Aa ?_ | refine Bj Aa ?_ | refine Bk Aa ?_) <;> refine Ac ?_) | ((first | refine Bh Aa Ab hS ?_ | refine Bt Aa Ab hS ?_ | refine Ba Aa Ab hS ?_ | refine Bd Aa Ab hS ?_); clear hS; intro b w hS; refine Ac ?_) | ((first | refine Av Aa Ab hS ?_ | refine Au Aa Ab hS ?_ | refine Bb Aa Ab hS ?_); clear hS; intro w hS; refine Ac ?_)) | ((fail_if_success (with_reducible refine Ad ?_)); first | go_step | go_step3 | rw [Exit.noGoto_normal] | rw [Exit.noGoto_ret] | rw [Exit.noGoto_exit]))
              go_roundw
              case rel => exact ⟨k + 1, Lr', by omega, by push_cast; rfl, hB', hS⟩
              case measure => first | (simp [intOf]; done) | (simp [intOf]; omega)
          · dsimp only at e1 e2 e3
            subst e1
            rw [show beB (u64W y2) ((1 : Int).toNat) = beB (u64W y2) 1 from rfl] at hbx
            obtain ⟨p7, c7, rfl⟩ := hB.slice
            repeat' (first | ((with_reducible refine Ad ?_); first | ((first | refine Bn Aa ?_ | refine Bm Aa ?_ | refine Az Aa ?_ | refine Bf Aa Ab hS ?_ | refine Bi Aa Ab hS ?_ | refine Ag Aa ?_ | refine Af Aa ?_ | refine Bs Aa ?_ | refine Ao Aa ?_ | refine Bw Aa ?_ | refine Be Aa ?_ | refine Bg Aa ?_ | refine Bv Aa (fun hc => ?_) (fun hc => ?_) | refine Ah Aa ?_ | refine Bu Aa ?_ | refine Bj Aa ?_ | refine Bk Aa ?_) <;> refine Ac ?_) | ((first | refine Bh Aa Ab hS ?_ | refine Bt Aa Ab hS ?_ | refine Ba Aa Ab hS ?_ | refine Bd Aa Ab hS ?_); clear hS; intro b w hS; refine Ac ?_) | ((first | refine Av Aa Ab hS ?_ | refine Au Aa Ab hS ?_ | refine Bb Aa Ab hS ?_); clear hS; intro w hS; refine Ac ?_)) | ((fail_if_success (with_reducible refine Ad ?_)); first | go_step | go_step3 | rw [Exit.noGoto_normal] | rw [Exit.noGoto_ret] | rw [Exit.noGoto_exit]))
            refine any_start [0, 1, 2, 3, 4, 5, 6, 7, 8, 9, 10, 11, 12, 13, 14] (by kernel_rfl) (by kernel_rfl) ?_
            intro w hcq
            replace hS := hS.cls hcq
            clear hcq
            (refine any_pull 0 (by kernel_rfl) (by rfl) (by rfl) (by exact fun _ _ _ _ h => h) ?_; apply Exists.intro; refine ⟨fun C w' => ?_, ?_⟩; (focus (first | exact Dv)); refine wa_put ?_)
            (refine any_pull 1 (by kernel_rfl) (by rfl) (by rfl) (by exact fun _ _ _ _ h => h) ?_; apply Exists.intro; refine ⟨fun C w' => ?_, ?_⟩; (focus (first | exact Dv)); refine wa_put ?_)
            (refine any_pull 2 (by kernel_rfl) (by rfl) (by rfl) (by exact fun _ _ _ _ h => h) ?_; apply Exists.intro; refine ⟨fun C w' => ?_, ?_⟩; (focus (first | exact Ci | exact Cf)); refine wa_put ?_)
            (refine any_pull 4 (by kernel_rfl) (by rfl) (by rfl) (by exact fun _ _ _ _ h => h) ?_; apply Exists.intro; refine ⟨fun C w' => ?_, ?_⟩; (focus (first | exact Dv)); refine wa_put ?_)
            (refine any_pull 5 (by kernel_rfl) (by rfl) (by rfl) (by exact fun _ _ _ _ h => h) ?_; apply Exists.intro; refine ⟨fun C w' => ?_, ?_⟩; (focus (first | exact Dv)); refine wa_put ?_)
            (refine any_pull 6 (by kernel_rfl) (by rfl) (by rfl) (by exact fun _ _ _ _ h => h) ?_; apply Exists.intro; refine ⟨fun C w' => ?_, ?_⟩; (focus (first | exact Dy)); refine wa_put ?_)
            (refine any_pull 7 (by kernel_rfl) (by rfl) (by rfl) (by exact fun _ _ _ _ h => h) ?_; apply Exists.intro; refine ⟨fun C w' => ?_, ?_⟩; (focus (first | exact Ci | exact Cf)); refine wa_put ?_)
            refine any_turn2 3 8 (by kernel_rfl) (by rfl) (by rfl) ?_ ?_
            · repeat' (first | ((with_reducible refine Ad ?_); first | ((first | refine Bn Aa ?_ | refine Bf Aa Ab hS ?_ (hv := by first | rfl | exact Bl | (rw [Array.getElem?_toList]; first | exact hc1 | exact hc2))) <;> refine Ac ?_)) | ((fail_if_success (with_reducible refine Ad ?_)); first | go_step | go_step3 | rw [Exit.noGoto_normal] | rw [Exit.noGoto_ret] | rw [Exit.noGoto_exit]))
              refine any_turn 8 (by kernel_rfl) (by rfl) ?_
              repeat' (first | ((with_reducible refine Ad ?_); first | ((first | refine Bn Aa ?_ | refine Bf Aa Ab hS ?_ (hv := by first | rfl | exact Bl | (rw [Array.getElem?_toList]; first | exact hc1 | exact hc2))) <;> refine Ac ?_)) | ((fail_if_success (with_reducible refine Ad ?_)); first | go_step | go_step3 | rw [Exit.noGoto_normal] | rw [Exit.noGoto_ret] | rw [Exit.noGoto_exit]))
              refine any_turn 9 (by kernel_rfl) (by rfl) ?_
              refine s_call Aa (by rfl) (by rfl) (by rfl) (by rfl) (by rfl) (by infer_instance) (num_1 y2 ⟨e2, e3⟩ _) ?_
              rintro e w2 ⟨sv2, rfl, ho, hBe⟩
              obtain ⟨p8, c8, rfl⟩ := ho.slice
              refine ⟨_, rfl, ?_⟩
              refine Ac ?_
              obtain ⟨Lb2, hB2, hS2⟩ := ho.join hS hBe
              replace hS := hS2
              clear hS2 ho hBe
              repeat' (first | ((with_reducible refine Ad ?_); first | ((first | refine Bn Aa ?_) <;> refine Ac ?_)) | ((fail_if_success (with_reducible refine Ad ?_)); first | go_step | go_step3 | rw [Exit.noGoto_normal] | rw [Exit.noGoto_ret] | rw [Exit.noGoto_exit]))
              (refine any_pull 10 (by kernel_rfl) (by rfl) (by rfl) (by exact fun _ _ _ _ h => h) ?_; apply Exists.intro; refine ⟨fun C w' => ?_, ?_⟩; (focus (first | exact Dv)); refine wa_put ?_)
              (refine any_pull 11 (by kernel_rfl) (by rfl) (by rfl) (by exact fun _ _ _ _ h => h) ?_; apply Exists.intro; refine ⟨fun C w' => ?_, ?_⟩; (focus (first | exact Co)); refine wa_put ?_)
              (refine any_pull 12 (by kernel_rfl) (by rfl) (by rfl) (by exact fun _ _ _ _ h => h) ?_; apply Exists.intro; refine ⟨fun C w' => ?_, ?_⟩; (focus (first | exact Co)); refine wa_put ?_)
              (refine any_pull 13 (by kernel_rfl) (by rfl) (by rfl) (by exact fun _ _ _ _ h => h) ?_; apply Exists.intro; refine ⟨fun C w' => ?_, ?_⟩; (focus (first | exact Cz)); refine wa_put ?_)
              (refine any_pull 14 (by kernel_rfl) (by rfl) (by rfl) (by exact fun _ _ _ _ h => h) ?_; apply Exists.intro; refine ⟨fun C w' => ?_, ?_⟩; (focus (first | exact Cz)); refine wa_put ?_)
              refine any_done (by kernel_rfl) ?_
              repeat' (first | ((with_reducible refine Ad ?_); first | ((first | refine Bn Aa ?_ | refine Bm Aa ?_ | refine Az Aa ?_ | refine Bf Aa Ab hS ?_ | refine Bi Aa Ab hS ?_ | refine Ag Aa ?_ | refine Af Aa ?_ | refine Bs Aa ?_ | refine Ao Aa ?_ | refine Bw Aa ?_ | refine Be Aa ?_ | refine Bg Aa ?_ | refine Bv Aa (fun hc => ?_) (fun hc => ?_) | refine Ah Aa ?_ | refine Bu Aa ?_ | refine Bj Aa ?_ | refine Bk Aa ?_) <;> refine Ac ?_) | ((first | refine Bh Aa Ab hS ?_ | refine Bt Aa Ab hS ?_ | refine Ba Aa Ab hS ?_ | refine Bd Aa Ab hS ?_); clear hS; intro b w hS; refine Ac ?_) | ((first | refine Av Aa Ab hS ?_ | refine Au Aa Ab hS ?_ | refine Bb Aa Ab hS ?_); clear hS; intro w hS; refine Ac ?_)) | ((fail_if_success (with_reducible refine Ad ?_)); first | go_step | go_step3 | rw [Exit.noGoto_normal] | rw [Exit.noGoto_ret] | rw [Exit.noGoto_exit]))
              rcases hB2 with ⟨_, e0, _⟩ | ⟨gn, cn, spn, en, n1, n2, n3, rfl⟩
              · exact absurd (congrArg List.length e0) (by rw [beB_len]; simp)
              simp only [Value.slice.injEq, true_and] at en
              obtain ⟨rfl, rfl⟩ := en
              simp only [List.cons_append, List.nil_append] at hS
              refine s_appL (L := [_, _]) (hS.perm (.cons _ (List.perm_append_comm (l₁ := [_, _])))) hB ⟨by omega, by rw [beB_len]; omega, by rw [beB_len]; omega⟩ (by rfl) (by rfl) (by rfl) (by rfl) ?_
              intro sv' Lr' w' hB' hS'
              rw [← hbx] at hB'
              obtain ⟨p9, c9, rfl⟩ := hB'.slice
              refine Ac ?_
              replace hS := St.perm hS' (List.perm_append_comm (l₂ := [_, _]))
              simp only [List.cons_append, List.nil_append] at hS
              clear hS'
              repeat' (first | ((with_reducible refine Ad ?_); first | ((first | refine Bn Aa ?_ | refine Bm Aa ?_ | refine Az Aa ?_ | refine Bf Aa Ab hS ?_ | refine Bi Aa Ab hS ?_ | refine Ag Aa ?_ | refine Af Aa ?_ | refine Bs Aa ?_ | refine Ao Aa ?_ | refine Bw Aa ?_ | refine Be Aa ?_ | refine Bg Aa ?_ | refine Bv Aa (fun hc => ?_) (fun hc => ?_) | refine Ah Aa ?_ | refine Bu Aa ?_ | refine Bj Aa ?_ | refine Bk Aa ?_) <;> refine Ac ?_) | ((first | refine Bh Aa Ab hS ?_ | refine Bt Aa Ab hS ?_ | refine Ba Aa Ab hS ?_ | refine Bd Aa Ab hS ?_); clear hS; intro b w hS; refine Ac ?_) | ((first | refine Av Aa Ab hS ?_ | refine Au Aa Ab hS ?_ | refine Bb Aa Ab hS ?_); clear hS; intro w hS; refine Ac ?_)) | ((fail_if_success (with_reducible refine Ad ?_)); first | go_step | go_step3 | rw [Exit.noGoto_normal] | rw [Exit.noGoto_ret] | rw [Exit.noGoto_exit]))
              go_roundw
              case rel => exact ⟨k + 1, Lr', by omega, by push_cast; rfl, hB', hS⟩
              case measure => first | (simp [intOf]; done) | (simp [intOf]; omega)
            · repeat' (first | ((with_reducible refine Ad ?_); first | ((first | refine Bn Aa ?_ | refine Bf Aa Ab hS ?_ (hv := by first | rfl | exact Bl | (rw [Array.getElem?_toList]; first | exact hc1 | exact hc2))) <;> refine Ac ?_)) | ((fail_if_success (with_reducible refine Ad ?_)); first | go_step | go_step3 | rw [Exit.noGoto_normal] | rw [Exit.noGoto_ret] | rw [Exit.noGoto_exit]))
              refine any_turn 3 (by kernel_rfl) (by rfl) ?_
              repeat' (first | ((with_reducible refine Ad ?_); first | ((first | refine Bn Aa ?_ | refine Bf Aa Ab hS ?_ (hv := by first | rfl | exact Bl | (rw [Array.getElem?_toList]; first | exact hc1 | exact hc2))) <;> refine Ac ?_)) | ((fail_if_success (with_reducible refine Ad ?_)); first | go_step | go_step3 | rw [Exit.noGoto_normal] | rw [Exit.noGoto_ret] | rw [Exit.noGoto_exit]))
              refine any_turn 9 (by kernel_rfl) (by rfl) ?_
              refine s_call Aa (by rfl) (by rfl) (by rfl) (by rfl) (by rfl) (by infer_instance) (num_1 y2 ⟨e2, e3⟩ _) ?_
              rintro e w2 ⟨sv2, rfl, ho, hBe⟩
              obtain ⟨p8, c8, rfl⟩ := ho.slice
              refine ⟨_, rfl, ?_⟩
              refine Ac ?_
              obtain ⟨Lb2, hB2, hS2⟩ := ho.join hS hBe
              replace hS := hS2
              clear hS2 ho hBe
              repeat' (first | ((with_reducible refine Ad ?_); first | ((first | refine Bn Aa ?_) <;> refine Ac ?_)) | ((fail_if_success (with_reducible refine Ad ?_)); first | go_step | go_step3 | rw [Exit.noGoto_normal] | rw [Exit.noGoto_ret] | rw [Exit.noGoto_exit]))
              (refine any_pull 10 (by kernel_rfl) (by rfl) (by rfl) (by exact fun _ _ _ _ h => h) ?_; apply Exists.intro; refine ⟨fun C w' => ?_, ?_⟩; (focus (first | exact Dv)); refine wa_put ?_)
              (refine any_pull 11 (by kernel_rfl) (by rfl) (by rfl) (by exact fun _ _ _ _ h => h) ?_; apply Exists.intro; refine ⟨fun C w' => ?_, ?_⟩; (focus (first | exact Co)); refine wa_put ?_)
              (refine any_pull 12 (by kernel_rfl) (by rfl) (by rfl) (by exact fun _ _ _ _ h => h) ?_; apply Exists.intro; refine ⟨fun C w' => ?_, ?_⟩; (focus (first | exact Co)); refine wa_put ?_)
              (refine any_pull 13 (by kernel_rfl) (by rfl) (by rfl) (by exact fun _ _ _ _ h => h) ?_; apply Exists.intro; refine ⟨fun C w' => ?_, ?_⟩; (focus (first | exact Cz)); refine wa_put ?_)
              (refine any_pull 14 (by kernel_rfl) (by rfl) (by rfl) (by exact fun _ _ _ _ h => h) ?_; apply Exists.intro; refine ⟨fun C w' => ?_, ?_⟩; (focus (first | exact Cz)); refine wa_put ?_)
              refine any_done (by kernel_rfl) ?_
              repeat' (first | ((with_reducible refine Ad ?_); first | ((first | refine Bn Aa ?_ | refine Bm Aa ?_ | refine Az Aa ?_ | refine Bf Aa Ab hS ?_ | refine Bi Aa Ab hS ?_ | refine Ag Aa ?_ | refine Af Aa ?_ | refine Bs Aa ?_ | refine Ao Aa ?_ | refine Bw Aa ?_ | refine Be Aa ?_ | refine Bg Aa ?_ | refine Bv Aa (fun hc => ?_) (fun hc => ?_) | refine Ah Aa ?_ | refine Bu Aa ?_ | refine Bj Aa ?_ | refine Bk Aa ?_) <;> refine Ac ?_) | ((first | refine Bh Aa Ab hS ?_ | refine Bt Aa Ab hS ?_ | refine Ba Aa Ab hS ?_ | refine Bd Aa Ab hS ?_); clear hS; intro b w hS; refine Ac ?_) | ((first | refine Av Aa Ab hS ?_ | refine Au Aa Ab hS ?_ | refine Bb Aa Ab hS ?_); clear hS; intro w hS; refine Ac ?_)) | ((fail_if_success (with_reducible refine Ad ?_)); first | go_step | go_step3 | rw [Exit.noGoto_normal] | rw [Exit.noGoto_ret] | rw [Exit.noGoto_exit]))
              rcases hB2 with ⟨_, e0, _⟩ | ⟨gn, cn, spn, en, n1, n2, n3, rfl⟩
              · exact absurd (congrArg List.length e0) (by rw [beB_len]; simp)
              simp only [Value.slice.injEq, true_and] at en
              obtain ⟨rfl, rfl⟩ := en
              simp only [List.cons_append, List.nil_append] at hS
              refine s_appL (L := [_, _]) (hS.perm (.cons _ (List.perm_append_comm (l₁ := [_, _])))) hB ⟨by omega, by rw [beB_len]; omega, by rw [beB_len]; omega⟩ (by rfl) (by rfl) (by rfl) (by rfl) ?_
              intro sv' Lr' w' hB' hS'
              rw [← hbx] at hB'
              obtain ⟨p9, c9, rfl⟩ := hB'.slice
              refine Ac ?_
              replace hS := St.perm hS' (List.perm_append_comm (l₂ := [_, _]))
              simp only [List.cons_append, List.nil_append] at hS
              clear hS'
              repeat' (first | ((with_reducible refine Ad ?_); first | ((first | refine Bn Aa ?_ | refine Bm Aa ?_ | refine Az Aa ?_ | refine Bf Aa Ab hS ?_ | refine Bi Aa Ab hS ?_ | refine Ag Aa ?_ | refine Af Aa ?_ | refine Bs Aa ?_ | refine Ao Aa ?_ | refine Bw Aa ?_ | refine Be Aa ?_ | refine Bg Aa ?_ | refine Bv Aa (fun hc => ?_) (fun hc => ?_) | refine Ah Aa ?_ | refine Bu Aa ?_ | refine Bj Aa ?_ | refine Bk Aa ?_) <;> refine Ac ?_) | ((first | refine Bh Aa Ab hS ?_ | refine Bt Aa Ab hS ?_ | refine Ba Aa Ab hS ?_ | refine Bd Aa Ab hS ?_); clear hS; intro b w hS; refine Ac ?_) | ((first | refine Av Aa Ab hS ?_ | refine Au Aa Ab hS ?_ | refine Bb Aa Ab hS ?_); clear hS; intro w hS; refine Ac ?_)) | ((fail_if_success (with_reducible refine Ad ?_)); first | go_step | go_step3 | rw [Exit.noGoto_normal] | rw [Exit.noGoto_ret] | rw [Exit.noGoto_exit]))
              go_roundw
              case rel => exact ⟨k + 1, Lr', by omega, by push_cast; rfl, hB', hS⟩
              case measure => first | (simp [intOf]; done) | (simp [intOf]; omega)
        · obtain rfl : k = NP.length := by omega
          rw [List.take_length] at hB
          obtain ⟨BB, hBB⟩ : ∃ BB, bytesR NP = BB := ⟨_, rfl⟩
          rw [hBB] at hB hbl
          replace hS := hS.erase 0
          simp only [List.eraseIdx_cons_zero] at hS
          obtain ⟨p7, c7, rfl⟩ := hB.slice
          repeat' (first | ((with_reducible refine Ad ?_); first | ((first | refine Bn Aa ?_ | refine Bm Aa ?_ | refine Az Aa ?_ | refine Bf Aa Ab hS ?_ | refine Bi Aa Ab hS ?_ | refine Ag Aa ?_ | refine Af Aa ?_ | refine Bs Aa ?_ | refine Ao Aa ?_ | refine Bw Aa ?_ | refine Be Aa ?_ | refine Bg Aa ?_ | refine Bv Aa (fun hc => ?_) (fun hc => ?_) | refine Ah Aa ?_ | refine Bu Aa ?_ | refine Bj Aa ?_ | refine Bk Aa ?_) <;> refine Ac ?_) | ((first | refine Bh Aa Ab hS ?_ | refine Bt Aa Ab hS ?_ | refine Ba Aa Ab hS ?_ | refine Bd Aa Ab hS ?_); clear hS; intro b w hS; refine Ac ?_) | ((first | refine Av Aa Ab hS ?_ | refine Au Aa Ab hS ?_ | refine Bb Aa Ab hS ?_); clear hS; intro w hS; refine Ac ?_)) | ((fail_if_success (with_reducible refine Ad ?_)); first | go_step | go_step3 | rw [Exit.noGoto_normal] | rw [Exit.noGoto_ret] | rw [Exit.noGoto_exit]))
          go_loopw [11] (fun u11 wr => ∃ k : Nat, k ≤ BB.length ∧ u11 = .int .i64 (k : Int) ∧ St w0 wr ((b, bvs (BB.take k ++ zs (128 - k)), 55) :: (br, bvs (zs 128), 55) :: Lb)) (fun u11 _ => BB.length - (intOf u11).toNat)
          case atStart => exact ⟨0, by omega, rfl, hS⟩
          case round =>
            obtain ⟨k, hk, rfl, hS⟩ := hrel
            by_cases hlt : k < BB.length
            · rcases hB with ⟨_, e0, _⟩ | ⟨gn, cn, spn, en, n1, n2, n3, rfl⟩
              · rw [e0] at hlt
                exact absurd hlt (Nat.not_lt_zero _)
              simp only [Value.slice.injEq, true_and] at en
              obtain ⟨rfl, rfl⟩ := en
              have q1 := cell_preR (R := BB) (sp := spn) hlt
              have q2 : (BB.take k ++ zs (128 - k)).length = 128 := by rw [List.length_append, List.length_take, zs_len]; omega
              have q3 : BB.length ≤ csz ((BB.map bv ++ spn).toArray) := by rw [Bz, List.length_append, List.length_map]; omega
              have hpn := put_next hlt (by omega)
              obtain ⟨X, hX⟩ : ∃ X, BB.take k ++ zs (128 - k) = X := ⟨_, rfl⟩
              rw [hX] at hS hpn q2
              repeat' (first | ((with_reducible refine Ad ?_); first | ((first | refine Bn Aa ?_ | refine Bm Aa ?_ | refine Az Aa ?_ | refine Bf Aa Ab hS ?_ (hv := by first | rfl | exact Bl | (rw [Array.getElem?_toList]; first | exact q1 | exact cell_preR hlt)) | refine Bi Aa Ab hS ?_ (hv := by first | exact Bq _ _ (by (try simp only [Ca, Ce, Bz, List.length_append, List.length_set, zs_len, List.length_take, List.length_drop, List.length_cons, List.length_nil]); first | done | rfl | omega) | (first | exact q1 | exact cell_preR hlt) | rfl) | refine Ag Aa ?_ | refine Af Aa ?_ | refine Bs Aa ?_ | refine Ao Aa ?_ | refine Bw Aa ?_ | refine Be Aa ?_ | refine Bg Aa ?_ | refine Bv Aa (fun hc => ?_) (fun hc => ?_) | refine Ah Aa ?_ | refine Bu Aa ?_ | refine Bj Aa ?_ | refine Bk Aa ?_) <;> refine Ac ?_) | ((first | refine Bh Aa Ab hS ?_ | refine Bt Aa Ab hS ?_ | refine Ba Aa Ab hS ?_ | refine Bd Aa Ab hS ?_); clear hS; intro b w hS; refine Ac ?_) | ((first | refine Av Aa Ab hS ?_ | refine Au Aa Ab hS ?_ | refine Bb Aa Ab hS ?_); clear hS; intro w hS; refine Ac ?_)) | ((fail_if_success (with_reducible refine Ad ?_)); first | go_step | go_step3 | rw [Exit.noGoto_normal] | rw [Exit.noGoto_ret] | rw [Exit.noGoto_exit]))
              rw [hpn] at hS
              go_roundw
              case rel => exact ⟨k + 1, by omega, by push_cast; rfl, hS⟩
              case measure => simp [intOf]; omega
            · obtain rfl : k = BB.length := by omega
              rw [List.take_length] at hS
              have s2 : csz (bvs (BB ++ zs (128 - BB.length))) = 128 := by rw [Ce, List.length_append, zs_len]; omega
              repeat' (first | ((with_reducible refine Ad ?_); first | ((first | refine Bn Aa ?_ | refine Bm Aa ?_ | refine Az Aa ?_ | refine Bf Aa Ab hS ?_ | refine Bi Aa Ab hS ?_ | refine Ag Aa ?_ | refine Af Aa ?_ | refine Bs Aa ?_ | refine Ao Aa ?_ | refine Bw Aa ?_ | refine Be Aa ?_ | refine Bg Aa ?_ | refine Bv Aa (fun hc => ?_) (fun hc => ?_) | refine Ah Aa ?_ | refine Bu Aa ?_ | refine Bj Aa ?_ | refine Bk Aa ?_) <;> refine Ac ?_) | ((first | refine Bh Aa Ab hS ?_ | refine Bt Aa Ab hS ?_ | refine Ba Aa Ab hS ?_ | refine Bd Aa Ab hS ?_); clear hS; intro b w hS; refine Ac ?_) | ((first | refine Av Aa Ab hS ?_ | refine Au Aa Ab hS ?_ | refine Bb Aa Ab hS ?_); clear hS; intro w hS; refine Ac ?_)) | ((fail_if_success (with_reducible refine Ad ?_)); first | go_step | go_step3 | rw [Exit.noGoto_normal] | rw [Exit.noGoto_ret] | rw [Exit.noGoto_exit]))
              exact De (n := 128) Try.results24 (by kernel_rfl) (.inl rfl) _ _ _ _ rfl rfl (hS.blk 1 rfl) (by rw [← csz_is]; exact s2) ⟨by subst hBB; rfl, hS.below⟩
set_option maxRecDepth 100000 in
set_option maxHeartbeats 8000000 in
theorem noteRef_bad (l : List Rg) (h t g : Int) (s : Bool) (hG : ¬ goodR ⟨l, h, t, s, g⟩) (hm : l.length ≤ 1000) (v : Value) (w0 : World) (hv : RegsAt w0 v l) :
    Calls Try.prog 24 #[.agg #[v, .int .i64 h, .int .i64 t, .bool s, .int .i64 g]] w0 fun e w' => e = .returned (.tuple #[.agg (bvs (zs 128)), .bool false]) ∧ Below w0.heap.size w0 w' := by
  obtain ⟨p1, c1, rfl, _⟩ := hv.slice
  have hC := fun (w : World) hw => goodRef_any l h t g s (.slice p1 l.length c1) w hw (by omega)
  rw [decide_eq_false hG] at hC
  have hS := St.start w0
  go_enter Try.func24, Try.ntmps24
  repeat' (first | ((with_reducible refine Ad ?_); first | ((first | refine Bn Aa ?_ | refine Bm Aa ?_ | refine Az Aa ?_ | refine Bf Aa Ab hS ?_ | refine Bi Aa Ab hS ?_ | refine Ag Aa ?_ | refine Af Aa ?_ | refine Bs Aa ?_ | refine Ao Aa ?_ | refine Bw Aa ?_ | refine Be Aa ?_ | refine Bg Aa ?_ | refine Bv Aa (fun hc => ?_) (fun hc => ?_) | refine Ah Aa ?_ | refine Bu Aa ?_ | refine Bj Aa ?_ | refine Bk Aa ?_) <;> refine Ac ?_) | ((first | refine Bh Aa Ab hS ?_ | refine Bt Aa Ab hS ?_ | refine Ba Aa Ab hS ?_ | refine Bd Aa Ab hS ?_); clear hS; intro b w hS; refine Ac ?_) | ((first | refine Av Aa Ab hS ?_ | refine Au Aa Ab hS ?_ | refine Bb Aa Ab hS ?_); clear hS; intro w hS; refine Ac ?_) | (refine Cb Aa Ab hS (hC _ (hv.below hS.below)) ?_; clear hS; intro w hS; refine Ac ?_)) | ((fail_if_success (with_reducible refine Ad ?_)); first | go_step | go_step3 | rw [Exit.noGoto_normal] | rw [Exit.noGoto_ret] | rw [Exit.noGoto_exit]))
  exact De (n := 128) Try.results24 (by kernel_rfl) (.inl rfl) _ _ _ _ rfl rfl (hS.blk 0 rfl) (by rw [← csz_is]; exact (show csz (bvs (zs 128)) = 128 by rw [Ce, zs_len])) ⟨rfl, hS.below⟩
end Go.Proofs.Ytkfggilildiflac
