/-
  Laws that the claims of this seat use, of several texts in one: Nt, Tk, Nx. No condition of their own.
-/
import Derived.Test.YtkfggilildiflacJI0

namespace Go.Proofs.Ytkfggilildiflac
open Go.ChangeShapes Go.WideShapes Go.ChangeAt Go.RowKit
attribute [local irreducible] wpList wpListIn Oper.quietAt wpM
/-- An own slice of pairs of numbers. -/
def PL (l : List Rg) (sv : Value) (Lr : List Blk) : Prop :=
  ∃ g c sp, sv = .slice (some ⟨g, 0, none⟩) l.length c ∧ l.length ≤ c ∧ c ≤ maxLen ∧ sp.length = (c - l.length) * 2 ∧ Lr = [(g, (rgs l ++ sp).toArray, 74)]
theorem s_appP {ops : Array Oper} {Q : Exit → Act → World → Prop} {o : Oper} {rest : List Oper} {a : Act} {w W0 : World} {l xs : List Rg} {sv : Value} {Lr L : List Blk} {nb m : Nat} {x y : Operand}
    (hS : St W0 w ((nb, (rgs xs).toArray, 74) :: (Lr ++ L))) (hR : PL l sv Lr) (hm : l.length ≤ 1000 ∧ m ≤ 10) (hxs : xs.length = m)
    (hw : Region.wanted o (yielded ops a.tmps) = true) (hop : o.op = .call { callee := .builtin .append, args := #[x, y], argTypes := #[75, 75] }) (hx : evO a x = some sv) (hy : evO a y = some (.slice (some ⟨nb, 0, none⟩) m m))
    (hk : ∀ sv' Lr' w', PL (l ++ xs) sv' Lr' → St W0 w' (Lr' ++ L) → wpList Try.prog ops Q rest (a.put o.dst sv') w') : wpList Try.prog ops Q (o :: rest) a w := by
  have hsrc : ∀ (w : World), blk w nb = some (.cells (rgs xs).toArray 74 (0, 0)) → ∀ j v, (rgs xs)[j]? = some v → w.cell? ((⟨nb, 0, none⟩ : Addr).add j) = some v := fun w hb => src_blk hb (fun j v h => by rw [Nat.zero_add]; exact h)
  obtain ⟨g, c, sp, rfl, h1, h2, h3, rfl⟩ := hR
  simp only [List.cons_append, List.nil_append] at hS
  refine s_append Aa Ab hS hw hop hx hy (by infer_instance) (by exact at_ 1 rfl) (olds := rgs l) (spare := sp) (by rfl) (rgs_len l) h1 h3 (xs := rgs xs) (hsrc _ (hS.blk 0 rfl)) (by rw [rgs_len, hxs]) (rgs_one _) (by unfold maxLen at h2 ⊢; omega) rfl ?_
  intro by2 cy2 S2 w' hq1 hq2 hq3 hS2
  have e : l.length + m = (l ++ xs).length := by rw [List.length_append, hxs]
  refine hk _ [_] _ ⟨by2, cy2, S2, by rw [e], by rw [← e]; exact hq1, hq2, by rw [← e]; exact hq3, rfl⟩ ?_
  rw [rgs_app]
  exact hS2.erase 1
theorem pair_cells (l : List Rg) (sp : List Value) : ∀ i x, (rgs l)[i]? = some x → ((rgs l ++ sp).toArray).toList[0 + i]? = some x := by
  intro i x h
  rw [Nat.zero_add]
  show (rgs l ++ sp)[i]? = some x
  rw [List.getElem?_append_left (List.getElem?_eq_some_iff.1 h).1]; exact h
theorem flat_next {l : List Rg} {k : Nat} (hk : k < l.length) {y : Rg} (hy : l.getD k (0, 0) = y) : ((l.take (k + 1)).flatMap fun y => [((8 : Int), y.1), (8, y.2)]) = ((l.take k).flatMap fun y => [((8 : Int), y.1), (8, y.2)]) ++ [(8, y.1), (8, y.2)] := by
  rw [take_reg hk, hy, List.flatMap_append]
  simp
theorem pairs_len : ∀ l : List Rg, (l.flatMap fun y => [((8 : Int), y.1), (8, y.2)]).length = 2 * l.length := by
  intro l
  induction l with
  | nil => rfl
  | cons y l ih => rw [List.flatMap_cons, List.length_append, ih, List.length_cons]; simp; omega
theorem bytes_next {l : List Rg} {k : Nat} (hk : k < l.length) {y : Rg} (hy : l.getD k (0, 0) = y) : bytesR (l.take (k + 1)) = bytesR (l.take k) ++ beB (u64W y.2) y.1.toNat := by
  rw [take_reg hk, hy, bytesR_snoc]
set_option maxRecDepth 100000 in
set_option maxHeartbeats 8000000 in
theorem note_true (l : List Rg) (h t g : Int) (hG : goodR ⟨l, h, t, true, g⟩) (v : Value) (w0 : World) (hv : RegsAt w0 v l) :
    Calls Try.prog 23 #[.agg #[v, .int .i64 h, .int .i64 t, .bool true, .int .i64 g]] w0 fun e w' => e = .returned (.tuple #[.agg (bvs (cellR ⟨l, h, t, true, g⟩)), .nilIface]) ∧ Below w0.heap.size w0 w' := by
  obtain ⟨p1, c1, rfl, _⟩ := hv.slice
  have h4 : l.length ≤ 4 := hG.1.1
  have hC := fun (w : World) hw => check_any l h t g true (.slice p1 l.length c1) w hw (by omega)
  rw [decide_eq_true hG] at hC
  have hsz := numsR_sized hG
  have hbl := numsB_len hG
  have hnl := numsR_len ⟨l, h, t, true, g⟩
  obtain ⟨NP, hNP⟩ : ∃ NP, numsR ⟨l, h, t, true, g⟩ = NP := ⟨_, rfl⟩
  have hNP2 : [((8 : Int), g), (1, 1), (1, t), (1, (l.length : Int)), (8, wrap64 (h + 1))] ++ l.flatMap (fun y => [((8 : Int), y.1), (8, y.2)]) = NP := hNP
  have hcell : cellR ⟨l, h, t, true, g⟩ = bytesR NP ++ zs (128 - (bytesR NP).length) := by unfold cellR; rw [hNP]
  rw [hNP] at hsz hbl hnl
  dsimp only at hnl
  rw [hcell]
  clear hNP hcell hG
  have hS := St.start w0
  go_enter Try.func23, Try.ntmps23
  repeat' (first | ((with_reducible refine Ad ?_); first | ((first | refine Bn Aa ?_ | refine Bm Aa ?_ | refine Az Aa ?_ | refine Bf Aa Ab hS ?_ | refine Bi Aa Ab hS ?_ | refine Ag Aa ?_ | refine Af Aa ?_ | refine Bs Aa ?_ | refine Ao Aa ?_ | refine Bw Aa ?_ | refine Be Aa ?_ | refine Bg Aa ?_ | refine Bv Aa (fun hc => ?_) (fun hc => ?_) | refine Ay Aa ?_ | refine Am Aa ?_ | refine Ah Aa ?_ | refine g_neqSlNil Aa ?_ | refine Ae Aa ?_ | refine Bj Aa ?_ | refine Bk Aa ?_) <;> refine Ac ?_) | ((first | refine Bh Aa Ab hS ?_ | refine Bt Aa Ab hS ?_ | refine Ba Aa Ab hS ?_ | refine Bd Aa Ab hS ?_); clear hS; intro b w hS; refine Ac ?_) | ((first | refine Au Aa Ab hS ?_ | refine Bb Aa Ab hS ?_); clear hS; intro w hS; refine Ac ?_) | (refine Cb Aa Ab hS (hC _ (hv.below hS.below)) ?_; clear hS; intro w hS; refine Ac ?_) | (refine Stp.go Aa (by rfl) (by rfl) (r_addW (by rfl) (by rfl) (by rfl) rfl) ?_; refine Ac ?_)) | ((fail_if_success (with_reducible refine Ad ?_)); first | go_step | go_step3 | rw [Exit.noGoto_normal] | rw [Exit.noGoto_ret] | rw [Exit.noGoto_exit]))
  clear hC
  rename_i bx z1 br z2 z3 z4 z5
  go_loopw [6, 41] (fun u6 u41 wr => ∃ (k : Nat) (Lr : List Blk), k ≤ l.length ∧ u41 = .int .i64 (k : Int) ∧ PL ([((8 : Int), g), (1, 1), (1, t), (1, (l.length : Int)), (8, wrap64 (h + 1))] ++ (l.take k).flatMap (fun y => [((8 : Int), y.1), (8, y.2)])) u6 Lr ∧ St w0 wr (Lr ++ [(br, bvs (zs 128), 55), (bx, #[.slice p1 l.length c1, .int .i64 h, .int .i64 t, .bool true, .int .i64 g], 24)])) (fun _ u41 _ => l.length - (intOf u41).toNat)
  case atStart => exact ⟨0, [_], by omega, rfl, ⟨b, 5, [], rfl, Nat.le_refl _, by decide, rfl, rfl⟩, hS⟩
  case round =>
    obtain ⟨k, Lr, hk, rfl, hR, hS⟩ := hrel
    by_cases hlt : k < l.length
    · obtain ⟨rb, o, cs, ty, fr, rfl, hb, hcell⟩ := hv.open_ (by omega)
      have q1 := csz_reg hcell hlt
      have hcut := cut_reg hcell hlt
      obtain ⟨⟨y1, y2⟩, hy⟩ : ∃ y, l.getD k (0, 0) = y := ⟨_, rfl⟩
      have hfn := flat_next hlt hy
      rw [hy] at hcut
      dsimp only at hcut hfn
      have hll : ([((8 : Int), g), (1, 1), (1, t), (1, (l.length : Int)), (8, wrap64 (h + 1))] ++ (l.take k).flatMap (fun y => [((8 : Int), y.1), (8, y.2)])).length ≤ 100 := by
        rw [List.length_append, pairs_len, List.length_take, List.length_cons, List.length_cons, List.length_cons, List.length_cons, List.length_cons, List.length_nil]
        omega
      obtain ⟨PP, hPP⟩ : ∃ PP, [((8 : Int), g), (1, 1), (1, t), (1, (l.length : Int)), (8, wrap64 (h + 1))] ++ (l.take k).flatMap (fun y => [((8 : Int), y.1), (8, y.2)]) = PP := ⟨_, rfl⟩
      rw [hPP] at hR hll
      obtain ⟨g1, cp, sp, rfl, k1, k2, k3, rfl⟩ := hR
      simp only [List.cons_append, List.nil_append] at hS
      repeat' (first | ((with_reducible refine Ad ?_); first | ((first | refine Bn Aa ?_ | refine Bm Aa ?_ | refine Az Aa ?_ | refine Bf Aa Ab hS ?_ (hv := by first | rfl | exact Bl | (rw [Array.getElem?_toList]; first | exact hcut)) | refine Dp Aa (by first | exact ((hS).far hb).1) ?_ (hv := by first | rfl | exact Bl | (rw [Array.getElem?_toList]; first | exact hcut)) | refine Bi Aa Ab hS ?_ (hv := by first | exact Bq _ _ (by (try simp only [Ca, Ce, Bz, List.length_append, List.length_set, zs_len, List.length_take, List.length_drop, List.length_cons, List.length_nil]); first | done | rfl | omega) | (first | exact hcut) | rfl) | refine Dq Aa (by first | exact ((hS).far hb).1) ?_ (hv := by first | exact Bq _ _ (by (try simp only [Ca, Ce, Bz, List.length_append, List.length_set, zs_len, List.length_take, List.length_drop, List.length_cons, List.length_nil]); first | done | rfl | omega) | (first | exact hcut) | rfl) | refine Ag Aa ?_ | refine Af Aa ?_ | refine Bs Aa ?_ | refine Ao Aa ?_ | refine Bw Aa ?_ | refine Be Aa ?_ | refine Bg Aa ?_ | refine Bv Aa (fun hc => ?_) (fun hc => ?_) | refine Ay Aa ?_ | refine Am Aa ?_ | refine Ah Aa ?_ | refine g_neqSlNil Aa ?_ | refine Ae Aa ?_ | refine Bj Aa ?_ | refine Bk Aa ?_) <;> refine Ac ?_) | ((first | refine Bh Aa Ab hS ?_ | refine Bt Aa Ab hS ?_ | refine Ba Aa Ab hS ?_ | refine Bd Aa Ab hS ?_); clear hS; intro b w hS; refine Ac ?_) | ((first | refine Au Aa Ab hS ?_ | refine Bb Aa Ab hS ?_); clear hS; intro w hS; refine Ac ?_)) | ((fail_if_success (with_reducible refine Ad ?_)); first | go_step | go_step3 | rw [Exit.noGoto_normal] | rw [Exit.noGoto_ret] | rw [Exit.noGoto_exit]))
      refine s_appP (L := [_, _, _]) (m := 2) (xs := [((8 : Int), y1), (8, y2)]) (hS.perm (.cons _ (.swap _ _ _))) ⟨g1, cp, sp, rfl, k1, k2, k3, rfl⟩ (by omega) (by rfl) (by rfl) (by rfl) (by rfl) (by rfl) ?_
      intro sv' Lr' w' hR' hS'
      rw [← hPP, List.append_assoc, ← hfn] at hR'
      obtain ⟨g2, cp2, sp2, rfl, j1, j2, j3, rfl⟩ := hR'
      refine Ac ?_
      replace hS := St.erase hS' 1
      simp only [List.cons_append, List.nil_append, List.eraseIdx_cons_succ, List.eraseIdx_cons_zero] at hS
      clear hS'
      repeat' (first | ((with_reducible refine Ad ?_); first | ((first | refine Bn Aa ?_ | refine Bm Aa ?_ | refine Az Aa ?_ | refine Bf Aa Ab hS ?_ | refine Bi Aa Ab hS ?_ | refine Ag Aa ?_ | refine Af Aa ?_ | refine Bs Aa ?_ | refine Ao Aa ?_ | refine Bw Aa ?_ | refine Be Aa ?_ | refine Bg Aa ?_ | refine Bv Aa (fun hc => ?_) (fun hc => ?_) | refine Ay Aa ?_ | refine Am Aa ?_ | refine Ah Aa ?_ | refine g_neqSlNil Aa ?_ | refine Ae Aa ?_ | refine Bj Aa ?_ | refine Bk Aa ?_) <;> refine Ac ?_) | ((first | refine Bh Aa Ab hS ?_ | refine Bt Aa Ab hS ?_ | refine Ba Aa Ab hS ?_ | refine Bd Aa Ab hS ?_); clear hS; intro b w hS; refine Ac ?_) | ((first | refine Au Aa Ab hS ?_ | refine Bb Aa Ab hS ?_); clear hS; intro w hS; refine Ac ?_)) | ((fail_if_success (with_reducible refine Ad ?_)); first | go_step | go_step3 | rw [Exit.noGoto_normal] | rw [Exit.noGoto_ret] | rw [Exit.noGoto_exit]))
      go_roundw
      case rel => exact ⟨k + 1, [_], by omega, by push_cast; rfl, ⟨g2, cp2, sp2, rfl, j1, j2, j3, rfl⟩, hS⟩
      case measure => first | (simp [intOf]; done) | (simp [intOf]; omega)
    · obtain rfl : k = l.length := by omega
      rw [List.take_length, hNP2] at hR
      clear hNP2 hv
      obtain ⟨gl, cp, sp, rfl, k1, k2, k3, rfl⟩ := hR
      simp only [List.cons_append, List.nil_append] at hS
      replace hS := hS.take 2
      simp only [List.take_succ_cons, List.take_zero] at hS
      repeat' (first | ((with_reducible refine Ad ?_); first | ((first | refine Bn Aa ?_ | refine Bm Aa ?_ | refine Az Aa ?_ | refine Bf Aa Ab hS ?_ | refine Bi Aa Ab hS ?_ | refine Ag Aa ?_ | refine Af Aa ?_ | refine Bs Aa ?_ | refine Ao Aa ?_ | refine Bw Aa ?_ | refine Be Aa ?_ | refine Bg Aa ?_ | refine Bv Aa (fun hc => ?_) (fun hc => ?_) | refine Ay Aa ?_ | refine Am Aa ?_ | refine Ah Aa ?_ | refine g_neqSlNil Aa ?_ | refine Ae Aa ?_ | refine Bj Aa ?_ | refine Bk Aa ?_) <;> refine Ac ?_) | ((first | refine Bh Aa Ab hS ?_ | refine Bt Aa Ab hS ?_ | refine Ba Aa Ab hS ?_ | refine Bd Aa Ab hS ?_); clear hS; intro b w hS; refine Ac ?_) | ((first | refine Au Aa Ab hS ?_ | refine Bb Aa Ab hS ?_); clear hS; intro w hS; refine Ac ?_)) | ((fail_if_success (with_reducible refine Ad ?_)); first | go_step | go_step3 | rw [Exit.noGoto_normal] | rw [Exit.noGoto_ret] | rw [Exit.noGoto_exit]))
      go_loopw [9, 57] (fun u9 u57 wr => ∃ (k : Nat) (Lb : List Blk), k ≤ NP.length ∧ u57 = .int .i64 (k : Int) ∧ BL (bytesR (NP.take k)) u9 Lb ∧ (bytesR (NP.take k) = [] → u9 = .slice none 0 0) ∧ St w0 wr ((gl, (rgs NP ++ sp).toArray, 74) :: (br, bvs (zs 128), 55) :: Lb)) (fun _ u57 _ => NP.length - (intOf u57).toNat)
      case atStart => exact ⟨0, [], by omega, rfl, .inl ⟨rfl, rfl, rfl⟩, fun _ => rfl, hS⟩
      case round =>
        obtain ⟨k, Lb, hk, rfl, hB, hz0, hS⟩ := hrel
        have hbn : (bytesR (NP.take k)).length ≤ 1000 := by
          have h1 := bytesR_len (l := NP.take k) fun p hp => hsz p (List.mem_of_mem_take hp)
          rw [List.length_take] at h1
          omega
        by_cases hlt : k < NP.length
        · have hcell := pair_cells NP sp
          have q1 := csz_reg hcell hlt
          have hcut := cut_reg hcell hlt
          have hsk := hsz _ (by rw [List.getD_eq_getElem?_getD, List.getElem?_eq_getElem hlt]; exact List.getElem_mem hlt : NP.getD k (0, 0) ∈ NP)
          obtain ⟨⟨y1, y2⟩, hy⟩ : ∃ y, NP.getD k (0, 0) = y := ⟨_, rfl⟩
          have hbx := bytes_next hlt hy
          rw [hy] at hcut hsk
          dsimp only at hcut hbx
          rw [Nat.zero_add] at q1 hcut
          have hrl := rgs_len NP
          rcases hsk with e1 | ⟨e1, e2, e3⟩
          · dsimp only at e1
            subst e1
            have hP := fun (w : World) vv h0 hw => put_8 (bytesR (NP.take k)) vv h0 hbn y2 w hw
            rw [show beB (u64W y2) ((8 : Int).toNat) = beB (u64W y2) 8 from rfl] at hbx
            rw [← hbx] at hP
            obtain ⟨p7, c7, rfl⟩ := hB.slice
            repeat' (first | ((with_reducible refine Ad ?_); first | ((first | refine Bn Aa ?_ | refine Bm Aa ?_ | refine Az Aa ?_ | refine Bf Aa Ab hS ?_ (hv := by first | rfl | exact Bl | (rw [Array.getElem?_toList]; first | exact hcut)) | refine Bi Aa Ab hS ?_ (hv := by first | exact Bq _ _ (by (try simp only [Ca, Ce, Bz, List.length_append, List.length_set, zs_len, List.length_take, List.length_drop, List.length_cons, List.length_nil]); first | done | rfl | omega) | (first | exact hcut) | rfl) | refine Ag Aa ?_ | refine Af Aa ?_ | refine Bs Aa ?_ | refine Ao Aa ?_ | refine Bw Aa ?_ | refine Be Aa ?_ | refine Bg Aa ?_ | refine Bv Aa (fun hc => ?_) (fun hc => ?_) | refine Ay Aa ?_ | refine Am Aa ?_ | refine Ah Aa ?_ | refine g_neqSlNil Aa ?_ | refine Ae Aa ?_ | refine Bj Aa ?_ | refine Bk Aa ?_) <;> refine Ac ?_) | ((first | refine Bh Aa Ab hS ?_ | refine Bt Aa Ab hS ?_ | refine Ba Aa Ab hS ?_ | refine Bd Aa Ab hS ?_); clear hS; intro b w hS; refine Ac ?_) | ((first | refine Au Aa Ab hS ?_ | refine Bb Aa Ab hS ?_); clear hS; intro w hS; refine Ac ?_)) | ((fail_if_success (with_reducible refine Ad ?_)); first | go_step | go_step3 | rw [Exit.noGoto_normal] | rw [Exit.noGoto_ret] | rw [Exit.noGoto_exit]))
            refine s_call Aa (by rfl) (by rfl) (by rfl) (by rfl) (by rfl) (by infer_instance) (hP _ _ hz0 (hB.inn hS (by intro x hx; simp [hx]))) ?_
            rintro e w2 ⟨sv2, rfl, ho, hBe⟩
            obtain ⟨p8, c8, rfl⟩ := ho.slice
            refine ⟨_, rfl, ?_⟩
            refine Ac ?_
            obtain ⟨Lb2, hB2, hS2⟩ := ho.join hS hBe
            have hS3 := Ab.drop (hS2.perm (List.perm_append_comm (l₂ := _ :: _ :: _ :: Lb)))
            replace hS := St.left (A := _ :: _ :: Lb2) (hS3.perm (.cons _ (.cons _ (List.perm_append_comm (l₁ := Lb)))))
            clear hS2 hS3 ho hBe
            repeat' (first | ((with_reducible refine Ad ?_); first | ((first | refine Bn Aa ?_ | refine Bm Aa ?_ | refine Az Aa ?_ | refine Bf Aa Ab hS ?_ | refine Bi Aa Ab hS ?_ | refine Ag Aa ?_ | refine Af Aa ?_ | refine Bs Aa ?_ | refine Ao Aa ?_ | refine Bw Aa ?_ | refine Be Aa ?_ | refine Bg Aa ?_ | refine Bv Aa (fun hc => ?_) (fun hc => ?_) | refine Ay Aa ?_ | refine Am Aa ?_ | refine Ah Aa ?_ | refine g_neqSlNil Aa ?_ | refine Ae Aa ?_ | refine Bj Aa ?_ | refine Bk Aa ?_) <;> refine Ac ?_) | ((first | refine Bh Aa Ab hS ?_ | refine Bt Aa Ab hS ?_ | refine Ba Aa Ab hS ?_ | refine Bd Aa Ab hS ?_); clear hS; intro b w hS; refine Ac ?_) | ((first | refine Au Aa Ab hS ?_ | refine Bb Aa Ab hS ?_); clear hS; intro w hS; refine Ac ?_)) | ((fail_if_success (with_reducible refine Ad ?_)); first | go_step | go_step3 | rw [Exit.noGoto_normal] | rw [Exit.noGoto_ret] | rw [Exit.noGoto_exit]))
            go_roundw
            case rel => exact ⟨k + 1, Lb2, by omega, by push_cast; rfl, hB2, fun hz => absurd (congrArg List.length hz) (by rw [hbx, List.length_append, beB_len]; simp), hS⟩
            case measure => first | (simp [intOf]; done) | (simp [intOf]; omega)
          · dsimp only at e1 e2 e3
            subst e1
            have hP := fun (w : World) vv h0 hw => put_1 (bytesR (NP.take k)) vv h0 hbn y2 ⟨e2, e3⟩ w hw
            rw [show beB (u64W y2) ((1 : Int).toNat) = beB (u64W y2) 1 from rfl] at hbx
            rw [← hbx] at hP
            obtain ⟨p7, c7, rfl⟩ := hB.slice
            repeat' (first | ((with_reducible refine Ad ?_); first | ((first | refine Bn Aa ?_ | refine Bm Aa ?_ | refine Az Aa ?_ | refine Bf Aa Ab hS ?_ (hv := by first | rfl | exact Bl | (rw [Array.getElem?_toList]; first | exact hcut)) | refine Bi Aa Ab hS ?_ (hv := by first | exact Bq _ _ (by (try simp only [Ca, Ce, Bz, List.length_append, List.length_set, zs_len, List.length_take, List.length_drop, List.length_cons, List.length_nil]); first | done | rfl | omega) | (first | exact hcut) | rfl) | refine Ag Aa ?_ | refine Af Aa ?_ | refine Bs Aa ?_ | refine Ao Aa ?_ | refine Bw Aa ?_ | refine Be Aa ?_ | refine Bg Aa ?_ | refine Bv Aa (fun hc => ?_) (fun hc => ?_) | refine Ay Aa ?_ | refine Am Aa ?_ | refine Ah Aa ?_ | refine g_neqSlNil Aa ?_ | refine Ae Aa ?_ | refine Bj Aa ?_ | refine Bk Aa ?_) <;> refine Ac ?_) | ((first | refine Bh Aa Ab hS ?_ | refine Bt Aa Ab hS ?_ | refine Ba Aa Ab hS ?_ | refine Bd Aa Ab hS ?_); clear hS; intro b w hS; refine Ac ?_) | ((first | refine Au Aa Ab hS ?_ | refine Bb Aa Ab hS ?_); clear hS; intro w hS; refine Ac ?_)) | ((fail_if_success (with_reducible refine Ad ?_)); first | go_step | go_step3 | rw [Exit.noGoto_normal] | rw [Exit.noGoto_ret] | rw [Exit.noGoto_exit]))
            refine s_call Aa (by rfl) (by rfl) (by rfl) (by rfl) (by rfl) (by infer_instance) (hP _ _ hz0 (hB.inn hS (by intro x hx; simp [hx]))) ?_
            rintro e w2 ⟨sv2, rfl, ho, hBe⟩
            obtain ⟨p8, c8, rfl⟩ := ho.slice
            refine ⟨_, rfl, ?_⟩
            refine Ac ?_
            obtain ⟨Lb2, hB2, hS2⟩ := ho.join hS hBe
            have hS3 := Ab.drop (hS2.perm (List.perm_append_comm (l₂ := _ :: _ :: _ :: Lb)))
            replace hS := St.left (A := _ :: _ :: Lb2) (hS3.perm (.cons _ (.cons _ (List.perm_append_comm (l₁ := Lb)))))
            clear hS2 hS3 ho hBe
            repeat' (first | ((with_reducible refine Ad ?_); first | ((first | refine Bn Aa ?_ | refine Bm Aa ?_ | refine Az Aa ?_ | refine Bf Aa Ab hS ?_ | refine Bi Aa Ab hS ?_ | refine Ag Aa ?_ | refine Af Aa ?_ | refine Bs Aa ?_ | refine Ao Aa ?_ | refine Bw Aa ?_ | refine Be Aa ?_ | refine Bg Aa ?_ | refine Bv Aa (fun hc => ?_) (fun hc => ?_) | refine Ay Aa ?_ | refine Am Aa ?_ | refine Ah Aa ?_ | refine g_neqSlNil Aa ?_ | refine Ae Aa ?_ | refine Bj Aa ?_ | refine Bk Aa ?_) <;> refine Ac ?_) | ((first | refine Bh Aa Ab hS ?_ | refine Bt Aa Ab hS ?_ | refine Ba Aa Ab hS ?_ | refine Bd Aa Ab hS ?_); clear hS; intro b w hS; refine Ac ?_) | ((first | refine Au Aa Ab hS ?_ | refine Bb Aa Ab hS ?_); clear hS; intro w hS; refine Ac ?_)) | ((fail_if_success (with_reducible refine Ad ?_)); first | go_step | go_step3 | rw [Exit.noGoto_normal] | rw [Exit.noGoto_ret] | rw [Exit.noGoto_exit]))
            go_roundw
            case rel => exact ⟨k + 1, Lb2, by omega, by push_cast; rfl, hB2, fun hz => absurd (congrArg List.length hz) (by rw [hbx, List.length_append, beB_len]; simp), hS⟩
            case measure => first | (simp [intOf]; done) | (simp [intOf]; omega)
        · obtain rfl : k = NP.length := by omega
          rw [List.take_length] at hB hbn
          have hF := fun (w : World) vv hw => fill_good (bytesR NP) hbl vv w hw
          have s9 : csz (bvs (bytesR NP ++ zs (128 - (bytesR NP).length))) = 128 := by rw [Ce, List.length_append, zs_len]; omega
          obtain ⟨p7, c7, rfl⟩ := hB.slice
          repeat' (first | ((with_reducible refine Ad ?_); first | ((first | refine Bn Aa ?_ | refine Bm Aa ?_ | refine Az Aa ?_ | refine Bf Aa Ab hS ?_ | refine Bi Aa Ab hS ?_ | refine Ag Aa ?_ | refine Af Aa ?_ | refine Bs Aa ?_ | refine Ao Aa ?_ | refine Bw Aa ?_ | refine Be Aa ?_ | refine Bg Aa ?_ | refine Bv Aa (fun hc => ?_) (fun hc => ?_) | refine Ay Aa ?_ | refine Am Aa ?_ | refine Ah Aa ?_ | refine g_neqSlNil Aa ?_ | refine Ae Aa ?_ | refine Bj Aa ?_ | refine Bk Aa ?_) <;> refine Ac ?_) | ((first | refine Bh Aa Ab hS ?_ | refine Bt Aa Ab hS ?_ | refine Ba Aa Ab hS ?_ | refine Bd Aa Ab hS ?_); clear hS; intro b w hS; refine Ac ?_) | ((first | refine Au Aa Ab hS ?_ | refine Bb Aa Ab hS ?_); clear hS; intro w hS; refine Ac ?_) | (refine Cb Aa Ab hS (hF _ _ (hB.inn hS (by intro x hx; simp [hx]))) ?_; clear hS; intro w hS; refine Ac ?_)) | ((fail_if_success (with_reducible refine Ad ?_)); first | go_step | go_step3 | rw [Exit.noGoto_normal] | rw [Exit.noGoto_ret] | rw [Exit.noGoto_exit]))
          exact De (n := 128) Try.results23 (by kernel_rfl) (.inl rfl) _ _ _ _ rfl rfl (by first | exact hS.blk 0 rfl | exact hS.blk 1 rfl | exact hS.blk 2 rfl) (by rw [← csz_is]; exact s9) ⟨rfl, hS.below⟩
set_option maxRecDepth 100000 in
set_option maxHeartbeats 8000000 in
theorem note_false (l : List Rg) (h t g : Int) (hG : goodR ⟨l, h, t, false, g⟩) (v : Value) (w0 : World) (hv : RegsAt w0 v l) :
    Calls Try.prog 23 #[.agg #[v, .int .i64 h, .int .i64 t, .bool false, .int .i64 g]] w0 fun e w' => e = .returned (.tuple #[.agg (bvs (cellR ⟨l, h, t, false, g⟩)), .nilIface]) ∧ Below w0.heap.size w0 w' := by
  obtain ⟨p1, c1, rfl, _⟩ := hv.slice
  have h4 : l.length ≤ 4 := hG.1.1
  have hC := fun (w : World) hw => check_any l h t g false (.slice p1 l.length c1) w hw (by omega)
  rw [decide_eq_true hG] at hC
  have hsz := numsR_sized hG
  have hbl := numsB_len hG
  have hnl := numsR_len ⟨l, h, t, false, g⟩
  obtain ⟨NP, hNP⟩ : ∃ NP, numsR ⟨l, h, t, false, g⟩ = NP := ⟨_, rfl⟩
  have hNP2 : [((8 : Int), g), (1, 0), (1, t), (1, (l.length : Int)), (8, wrap64 (h + 1))] ++ l.flatMap (fun y => [((8 : Int), y.1), (8, y.2)]) = NP := hNP
  have hcell : cellR ⟨l, h, t, false, g⟩ = bytesR NP ++ zs (128 - (bytesR NP).length) := by unfold cellR; rw [hNP]
  rw [hNP] at hsz hbl hnl
  dsimp only at hnl
  rw [hcell]
  clear hNP hcell hG
  have hS := St.start w0
  go_enter Try.func23, Try.ntmps23
  repeat' (first | ((with_reducible refine Ad ?_); first | ((first | refine Bn Aa ?_ | refine Bm Aa ?_ | refine Az Aa ?_ | refine Bf Aa Ab hS ?_ | refine Bi Aa Ab hS ?_ | refine Ag Aa ?_ | refine Af Aa ?_ | refine Bs Aa ?_ | refine Ao Aa ?_ | refine Bw Aa ?_ | refine Be Aa ?_ | refine Bg Aa ?_ | refine Bv Aa (fun hc => ?_) (fun hc => ?_) | refine Ay Aa ?_ | refine Am Aa ?_ | refine Ah Aa ?_ | refine g_neqSlNil Aa ?_ | refine Ae Aa ?_ | refine Bj Aa ?_ | refine Bk Aa ?_) <;> refine Ac ?_) | ((first | refine Bh Aa Ab hS ?_ | refine Bt Aa Ab hS ?_ | refine Ba Aa Ab hS ?_ | refine Bd Aa Ab hS ?_); clear hS; intro b w hS; refine Ac ?_) | ((first | refine Au Aa Ab hS ?_ | refine Bb Aa Ab hS ?_); clear hS; intro w hS; refine Ac ?_) | (refine Cb Aa Ab hS (hC _ (hv.below hS.below)) ?_; clear hS; intro w hS; refine Ac ?_) | (refine Stp.go Aa (by rfl) (by rfl) (r_addW (by rfl) (by rfl) (by rfl) rfl) ?_; refine Ac ?_)) | ((fail_if_success (with_reducible refine Ad ?_)); first | go_step | go_step3 | rw [Exit.noGoto_normal] | rw [Exit.noGoto_ret] | rw [Exit.noGoto_exit]))
  clear hC
  rename_i bx z1 br z2 z3 z4 z5
  go_loopw [6, 41] (fun u6 u41 wr => ∃ (k : Nat) (Lr : List Blk), k ≤ l.length ∧ u41 = .int .i64 (k : Int) ∧ PL ([((8 : Int), g), (1, 0), (1, t), (1, (l.length : Int)), (8, wrap64 (h + 1))] ++ (l.take k).flatMap (fun y => [((8 : Int), y.1), (8, y.2)])) u6 Lr ∧ St w0 wr (Lr ++ [(br, bvs (zs 128), 55), (bx, #[.slice p1 l.length c1, .int .i64 h, .int .i64 t, .bool false, .int .i64 g], 24)])) (fun _ u41 _ => l.length - (intOf u41).toNat)
  case atStart => exact ⟨0, [_], by omega, rfl, ⟨b, 5, [], rfl, Nat.le_refl _, by decide, rfl, rfl⟩, hS⟩
  case round =>
    obtain ⟨k, Lr, hk, rfl, hR, hS⟩ := hrel
    by_cases hlt : k < l.length
    · obtain ⟨rb, o, cs, ty, fr, rfl, hb, hcell⟩ := hv.open_ (by omega)
      have q1 := csz_reg hcell hlt
      have hcut := cut_reg hcell hlt
      obtain ⟨⟨y1, y2⟩, hy⟩ : ∃ y, l.getD k (0, 0) = y := ⟨_, rfl⟩
      have hfn := flat_next hlt hy
      rw [hy] at hcut
      dsimp only at hcut hfn
      have hll : ([((8 : Int), g), (1, 0), (1, t), (1, (l.length : Int)), (8, wrap64 (h + 1))] ++ (l.take k).flatMap (fun y => [((8 : Int), y.1), (8, y.2)])).length ≤ 100 := by
        rw [List.length_append, pairs_len, List.length_take, List.length_cons, List.length_cons, List.length_cons, List.length_cons, List.length_cons, List.length_nil]
        omega
      obtain ⟨PP, hPP⟩ : ∃ PP, [((8 : Int), g), (1, 0), (1, t), (1, (l.length : Int)), (8, wrap64 (h + 1))] ++ (l.take k).flatMap (fun y => [((8 : Int), y.1), (8, y.2)]) = PP := ⟨_, rfl⟩
      rw [hPP] at hR hll
      obtain ⟨g1, cp, sp, rfl, k1, k2, k3, rfl⟩ := hR
      simp only [List.cons_append, List.nil_append] at hS
      repeat' (first | ((with_reducible refine Ad ?_); first | ((first | refine Bn Aa ?_ | refine Bm Aa ?_ | refine Az Aa ?_ | refine Bf Aa Ab hS ?_ (hv := by first | rfl | exact Bl | (rw [Array.getElem?_toList]; first | exact hcut)) | refine Dp Aa (by first | exact ((hS).far hb).1) ?_ (hv := by first | rfl | exact Bl | (rw [Array.getElem?_toList]; first | exact hcut)) | refine Bi Aa Ab hS ?_ (hv := by first | exact Bq _ _ (by (try simp only [Ca, Ce, Bz, List.length_append, List.length_set, zs_len, List.length_take, List.length_drop, List.length_cons, List.length_nil]); first | done | rfl | omega) | (first | exact hcut) | rfl) | refine Dq Aa (by first | exact ((hS).far hb).1) ?_ (hv := by first | exact Bq _ _ (by (try simp only [Ca, Ce, Bz, List.length_append, List.length_set, zs_len, List.length_take, List.length_drop, List.length_cons, List.length_nil]); first | done | rfl | omega) | (first | exact hcut) | rfl) | refine Ag Aa ?_ | refine Af Aa ?_ | refine Bs Aa ?_ | refine Ao Aa ?_ | refine Bw Aa ?_ | refine Be Aa ?_ | refine Bg Aa ?_ | refine Bv Aa (fun hc => ?_) (fun hc => ?_) | refine Ay Aa ?_ | refine Am Aa ?_ | refine Ah Aa ?_ | refine g_neqSlNil Aa ?_ | refine Ae Aa ?_ | refine Bj Aa ?_ | refine Bk Aa ?_) <;> refine Ac ?_) | ((first | refine Bh Aa Ab hS ?_ | refine Bt Aa Ab hS ?_ | refine Ba Aa Ab hS ?_ | refine Bd Aa Ab hS ?_); clear hS; intro b w hS; refine Ac ?_) | ((first | refine Au Aa Ab hS ?_ | refine Bb Aa Ab hS ?_); clear hS; intro w hS; refine Ac ?_)) | ((fail_if_success (with_reducible refine Ad ?_)); first | go_step | go_step3 | rw [Exit.noGoto_normal] | rw [Exit.noGoto_ret] | rw [Exit.noGoto_exit]))
      refine s_appP (L := [_, _, _]) (m := 2) (xs := [((8 : Int), y1), (8, y2)]) (hS.perm (.cons _ (.swap _ _ _))) ⟨g1, cp, sp, rfl, k1, k2, k3, rfl⟩ (by omega) (by rfl) (by rfl) (by rfl) (by rfl) (by rfl) ?_
      intro sv' Lr' w' hR' hS'
      rw [← hPP, List.append_assoc, ← hfn] at hR'
      obtain ⟨g2, cp2, sp2, rfl, j1, j2, j3, rfl⟩ := hR'
      refine Ac ?_
      replace hS := St.erase hS' 1
      simp only [List.cons_append, List.nil_append, List.eraseIdx_cons_succ, List.eraseIdx_cons_zero] at hS
      clear hS'
      repeat' (first | ((with_reducible refine Ad ?_); first | ((first | refine Bn Aa ?_ | refine Bm Aa ?_ | refine Az Aa ?_ | refine Bf Aa Ab hS ?_ | refine Bi Aa Ab hS ?_ | refine Ag Aa ?_ | refine Af Aa ?_ | refine Bs Aa ?_ | refine Ao Aa ?_ | refine Bw Aa ?_ | refine Be Aa ?_ | refine Bg Aa ?_ | refine Bv Aa (fun hc => ?_) (fun hc => ?_) | refine Ay Aa ?_ | refine Am Aa ?_ | refine Ah Aa ?_ | refine g_neqSlNil Aa ?_ | refine Ae Aa ?_ | refine Bj Aa ?_ | refine Bk Aa ?_) <;> refine Ac ?_) | ((first | refine Bh Aa Ab hS ?_ | refine Bt Aa Ab hS ?_ | refine Ba Aa Ab hS ?_ | refine Bd Aa Ab hS ?_); clear hS; intro b w hS; refine Ac ?_) | ((first | refine Au Aa Ab hS ?_ | refine Bb Aa Ab hS ?_); clear hS; intro w hS; refine Ac ?_)) | ((fail_if_success (with_reducible refine Ad ?_)); first | go_step | go_step3 | rw [Exit.noGoto_normal] | rw [Exit.noGoto_ret] | rw [Exit.noGoto_exit]))
      go_roundw
      case rel => exact ⟨k + 1, [_], by omega, by push_cast; rfl, ⟨g2, cp2, sp2, rfl, j1, j2, j3, rfl⟩, hS⟩
      case measure => first | (simp [intOf]; done) | (simp [intOf]; omega)
    · obtain rfl : k = l.length := by omega
      rw [List.take_length, hNP2] at hR
      clear hNP2 hv
      obtain ⟨gl, cp, sp, rfl, k1, k2, k3, rfl⟩ := hR
      simp only [List.cons_append, List.nil_append] at hS
      replace hS := hS.take 2
      simp only [List.take_succ_cons, List.take_zero] at hS
      repeat' (first | ((with_reducible refine Ad ?_); first | ((first | refine Bn Aa ?_ | refine Bm Aa ?_ | refine Az Aa ?_ | refine Bf Aa Ab hS ?_ | refine Bi Aa Ab hS ?_ | refine Ag Aa ?_ | refine Af Aa ?_ | refine Bs Aa ?_ | refine Ao Aa ?_ | refine Bw Aa ?_ | refine Be Aa ?_ | refine Bg Aa ?_ | refine Bv Aa (fun hc => ?_) (fun hc => ?_) | refine Ay Aa ?_ | refine Am Aa ?_ | refine Ah Aa ?_ | refine g_neqSlNil Aa ?_ | refine Ae Aa ?_ | refine Bj Aa ?_ | refine Bk Aa ?_) <;> refine Ac ?_) | ((first | refine Bh Aa Ab hS ?_ | refine Bt Aa Ab hS ?_ | refine Ba Aa Ab hS ?_ | refine Bd Aa Ab hS ?_); clear hS; intro b w hS; refine Ac ?_) | ((first | refine Au Aa Ab hS ?_ | refine Bb Aa Ab hS ?_); clear hS; intro w hS; refine Ac ?_)) | ((fail_if_success (with_reducible refine Ad ?_)); first | go_step | go_step3 | rw [Exit.noGoto_normal] | rw [Exit.noGoto_ret] | rw [Exit.noGoto_exit]))
      go_loopw [9, 57] (fun u9 u57 wr => ∃ (k : Nat) (Lb : List Blk), k ≤ NP.length ∧ u57 = .int .i64 (k : Int) ∧ BL (bytesR (NP.take k)) u9 Lb ∧ (bytesR (NP.take k) = [] → u9 = .slice none 0 0) ∧ St w0 wr ((gl, (rgs NP ++ sp).toArray, 74) :: (br, bvs (zs 128), 55) :: Lb)) (fun _ u57 _ => NP.length - (intOf u57).toNat)
      case atStart => exact ⟨0, [], by omega, rfl, .inl ⟨rfl, rfl, rfl⟩, fun _ => rfl, hS⟩
      case round =>
        obtain ⟨k, Lb, hk, rfl, hB, hz0, hS⟩ := hrel
        have hbn : (bytesR (NP.take k)).length ≤ 1000 := by
          have h1 := bytesR_len (l := NP.take k) fun p hp => hsz p (List.mem_of_mem_take hp)
          rw [List.length_take] at h1
          omega
        by_cases hlt : k < NP.length
        · have hcell := pair_cells NP sp
          have q1 := csz_reg hcell hlt
          have hcut := cut_reg hcell hlt
          have hsk := hsz _ (by rw [List.getD_eq_getElem?_getD, List.getElem?_eq_getElem hlt]; exact List.getElem_mem hlt : NP.getD k (0, 0) ∈ NP)
          obtain ⟨⟨y1, y2⟩, hy⟩ : ∃ y, NP.getD k (0, 0) = y := ⟨_, rfl⟩
          have hbx := bytes_next hlt hy
          rw [hy] at hcut hsk
          dsimp only at hcut hbx
          rw [Nat.zero_add] at q1 hcut
          have hrl := rgs_len NP
          rcases hsk with e1 | ⟨e1, e2, e3⟩
          · dsimp only at e1
            subst e1
            have hP := fun (w : World) vv h0 hw => put_8 (bytesR (NP.take k)) vv h0 hbn y2 w hw
            rw [show beB (u64W y2) ((8 : Int).toNat) = beB (u64W y2) 8 from rfl] at hbx
            rw [← hbx] at hP
            obtain ⟨p7, c7, rfl⟩ := hB.slice
            repeat' (first | ((with_reducible refine Ad ?_); first | ((first | refine Bn Aa ?_ | refine Bm Aa ?_ | refine Az Aa ?_ | refine Bf Aa Ab hS ?_ (hv := by first | rfl | exact Bl | (rw [Array.getElem?_toList]; first | exact hcut)) | refine Bi Aa Ab hS ?_ (hv := by first | exact Bq _ _ (by (try simp only [Ca, Ce, Bz, List.length_append, List.length_set, zs_len, List.length_take, List.length_drop, List.length_cons, List.length_nil]); first | done | rfl | omega) | (first | exact hcut) | rfl) | refine Ag Aa ?_ | refine Af Aa ?_ | refine Bs Aa ?_ | refine Ao Aa ?_ | refine Bw Aa ?_ | refine Be Aa ?_ | refine Bg Aa ?_ | refine Bv Aa (fun hc => ?_) (fun hc => ?_) | refine Ay Aa ?_ | refine Am Aa ?_ | refine Ah Aa ?_ | refine g_neqSlNil Aa ?_ | refine Ae Aa ?_ | refine Bj Aa ?_ | refine Bk Aa ?_) <;> refine Ac ?_) | ((first | refine Bh Aa Ab hS ?_ | refine Bt Aa Ab hS ?_ | refine Ba Aa Ab hS ?_ | refine Bd Aa Ab hS ?_); clear hS; intro b w hS; refine Ac ?_) | ((first | refine Au Aa Ab hS ?_ | refine Bb Aa Ab hS ?_); clear hS; intro w hS; refine Ac ?_)) | ((fail_if_success (with_reducible refine Ad ?_)); first | go_step | go_step3 | rw [Exit.noGoto_normal] | rw [Exit.noGoto_ret] | rw [Exit.noGoto_exit]))
            refine s_call Aa (by rfl) (by rfl) (by rfl) (by rfl) (by rfl) (by infer_instance) (hP _ _ hz0 (hB.inn hS (by intro x hx; simp [hx]))) ?_
            rintro e w2 ⟨sv2, rfl, ho, hBe⟩
            obtain ⟨p8, c8, rfl⟩ := ho.slice
            refine ⟨_, rfl, ?_⟩
            refine Ac ?_
            obtain ⟨Lb2, hB2, hS2⟩ := ho.join hS hBe
            have hS3 := Ab.drop (hS2.perm (List.perm_append_comm (l₂ := _ :: _ :: _ :: Lb)))
            replace hS := St.left (A := _ :: _ :: Lb2) (hS3.perm (.cons _ (.cons _ (List.perm_append_comm (l₁ := Lb)))))
            clear hS2 hS3 ho hBe
            repeat' (first | ((with_reducible refine Ad ?_); first | ((first | refine Bn Aa ?_ | refine Bm Aa ?_ | refine Az Aa ?_ | refine Bf Aa Ab hS ?_ | refine Bi Aa Ab hS ?_ | refine Ag Aa ?_ | refine Af Aa ?_ | refine Bs Aa ?_ | refine Ao Aa ?_ | refine Bw Aa ?_ | refine Be Aa ?_ | refine Bg Aa ?_ | refine Bv Aa (fun hc => ?_) (fun hc => ?_) | refine Ay Aa ?_ | refine Am Aa ?_ | refine Ah Aa ?_ | refine g_neqSlNil Aa ?_ | refine Ae Aa ?_ | refine Bj Aa ?_ | refine Bk Aa ?_) <;> refine Ac ?_) | ((first | refine Bh Aa Ab hS ?_ | refine Bt Aa Ab hS ?_ | refine Ba Aa Ab hS ?_ | refine Bd Aa Ab hS ?_); clear hS; intro b w hS; refine Ac ?_) | ((first | refine Au Aa Ab hS ?_ | refine Bb Aa Ab hS ?_); clear hS; intro w hS; refine Ac ?_)) | ((fail_if_success (with_reducible refine Ad ?_)); first | go_step | go_step3 | rw [Exit.noGoto_normal] | rw [Exit.noGoto_ret] | rw [Exit.noGoto_exit]))
            go_roundw
            case rel => exact ⟨k + 1, Lb2, by omega, by push_cast; rfl, hB2, fun hz => absurd (congrArg List.length hz) (by rw [hbx, List.length_append, beB_len]; simp), hS⟩
            case measure => first | (simp [intOf]; done) | (simp [intOf]; omega)
          · dsimp only at e1 e2 e3
            subst e1
            have hP := fun (w : World) vv h0 hw => put_1 (bytesR (NP.take k)) vv h0 hbn y2 ⟨e2, e3⟩ w hw
            rw [show beB (u64W y2) ((1 : Int).toNat) = beB (u64W y2) 1 from rfl] at hbx
            rw [← hbx] at hP
            obtain ⟨p7, c7, rfl⟩ := hB.slice
            repeat' (first | ((with_reducible refine Ad ?_); first | ((first | refine Bn Aa ?_ | refine Bm Aa ?_ | refine Az Aa ?_ | refine Bf Aa Ab hS ?_ (hv := by first | rfl | exact Bl | (rw [Array.getElem?_toList]; first | exact hcut)) | refine Bi Aa Ab hS ?_ (hv := by first | exact Bq _ _ (by (try simp only [Ca, Ce, Bz, List.length_append, List.length_set, zs_len, List.length_take, List.length_drop, List.length_cons, List.length_nil]); first | done | rfl | omega) | (first | exact hcut) | rfl) | refine Ag Aa ?_ | refine Af Aa ?_ | refine Bs Aa ?_ | refine Ao Aa ?_ | refine Bw Aa ?_ | refine Be Aa ?_ | refine Bg Aa ?_ | refine Bv Aa (fun hc => ?_) (fun hc => ?_) | refine Ay Aa ?_ | refine Am Aa ?_ | refine Ah Aa ?_ | refine g_neqSlNil Aa ?_ | refine Ae Aa ?_ | refine Bj Aa ?_ | refine Bk Aa ?_) <;> refine Ac ?_) | ((first | refine Bh Aa Ab hS ?_ | refine Bt Aa Ab hS ?_ | refine Ba Aa Ab hS ?_ | refine Bd Aa Ab hS ?_); clear hS; intro b w hS; refine Ac ?_) | ((first | refine Au Aa Ab hS ?_ | refine Bb Aa Ab hS ?_); clear hS; intro w hS; refine Ac ?_)) | ((fail_if_success (with_reducible refine Ad ?_)); first | go_step | go_step3 | rw [Exit.noGoto_normal] | rw [Exit.noGoto_ret] | rw [Exit.noGoto_exit]))
            refine s_call Aa (by rfl) (by rfl) (by rfl) (by rfl) (by rfl) (by infer_instance) (hP _ _ hz0 (hB.inn hS (by intro x hx; simp [hx]))) ?_
            rintro e w2 ⟨sv2, rfl, ho, hBe⟩
            obtain ⟨p8, c8, rfl⟩ := ho.slice
            refine ⟨_, rfl, ?_⟩
            refine Ac ?_
            obtain ⟨Lb2, hB2, hS2⟩ := ho.join hS hBe
            have hS3 := Ab.drop (hS2.perm (List.perm_append_comm (l₂ := _ :: _ :: _ :: Lb)))
            replace hS := St.left (A := _ :: _ :: Lb2) (hS3.perm (.cons _ (.cons _ (List.perm_append_comm (l₁ := Lb)))))
            clear hS2 hS3 ho hBe
            repeat' (first | ((with_reducible refine Ad ?_); first | ((first | refine Bn Aa ?_ | refine Bm Aa ?_ | refine Az Aa ?_ | refine Bf Aa Ab hS ?_ | refine Bi Aa Ab hS ?_ | refine Ag Aa ?_ | refine Af Aa ?_ | refine Bs Aa ?_ | refine Ao Aa ?_ | refine Bw Aa ?_ | refine Be Aa ?_ | refine Bg Aa ?_ | refine Bv Aa (fun hc => ?_) (fun hc => ?_) | refine Ay Aa ?_ | refine Am Aa ?_ | refine Ah Aa ?_ | refine g_neqSlNil Aa ?_ | refine Ae Aa ?_ | refine Bj Aa ?_ | refine Bk Aa ?_) <;> refine Ac ?_) | ((first | refine Bh Aa Ab hS ?_ | refine Bt Aa Ab hS ?_ | refine Ba Aa Ab hS ?_ | refine Bd Aa Ab hS ?_); clear hS; intro b w hS; refine Ac ?_) | ((first | refine Au Aa Ab hS ?_ | refine Bb Aa Ab hS ?_); clear hS; intro w hS; refine Ac ?_)) | ((fail_if_success (with_reducible refine Ad ?_)); first | go_step | go_step3 | rw [Exit.noGoto_normal] | rw [Exit.noGoto_ret] | rw [Exit.noGoto_exit]))
            go_roundw
            case rel => exact ⟨k + 1, Lb2, by omega, by push_cast; rfl, hB2, fun hz => absurd (congrArg List.length hz) (by rw [hbx, List.length_append, beB_len]; simp), hS⟩
            case measure => first | (simp [intOf]; done) | (simp [intOf]; omega)
        · obtain rfl : k = NP.length := by omega
          rw [List.take_length] at hB hbn
          have hF := fun (w : World) vv hw => fill_good (bytesR NP) hbl vv w hw
          have s9 : csz (bvs (bytesR NP ++ zs (128 - (bytesR NP).length))) = 128 := by rw [Ce, List.length_append, zs_len]; omega
          obtain ⟨p7, c7, rfl⟩ := hB.slice
          repeat' (first | ((with_reducible refine Ad ?_); first | ((first | refine Bn Aa ?_ | refine Bm Aa ?_ | refine Az Aa ?_ | refine Bf Aa Ab hS ?_ | refine Bi Aa Ab hS ?_ | refine Ag Aa ?_ | refine Af Aa ?_ | refine Bs Aa ?_ | refine Ao Aa ?_ | refine Bw Aa ?_ | refine Be Aa ?_ | refine Bg Aa ?_ | refine Bv Aa (fun hc => ?_) (fun hc => ?_) | refine Ay Aa ?_ | refine Am Aa ?_ | refine Ah Aa ?_ | refine g_neqSlNil Aa ?_ | refine Ae Aa ?_ | refine Bj Aa ?_ | refine Bk Aa ?_) <;> refine Ac ?_) | ((first | refine Bh Aa Ab hS ?_ | refine Bt Aa Ab hS ?_ | refine Ba Aa Ab hS ?_ | refine Bd Aa Ab hS ?_); clear hS; intro b w hS; refine Ac ?_) | ((first | refine Au Aa Ab hS ?_ | refine Bb Aa Ab hS ?_); clear hS; intro w hS; refine Ac ?_) | (refine Cb Aa Ab hS (hF _ _ (hB.inn hS (by intro x hx; simp [hx]))) ?_; clear hS; intro w hS; refine Ac ?_)) | ((fail_if_success (with_reducible refine Ad ?_)); first | go_step | go_step3 | rw [Exit.noGoto_normal] | rw [Exit.noGoto_ret] | rw [Exit.noGoto_exit]))
          exact De (n := 128) Try.results23 (by kernel_rfl) (.inl rfl) _ _ _ _ rfl rfl (by first | exact hS.blk 0 rfl | exact hS.blk 1 rfl | exact hS.blk 2 rfl) (by rw [← csz_is]; exact s9) ⟨rfl, hS.below⟩
set_option maxRecDepth 100000 in
theorem note_bad (l : List Rg) (h t g : Int) (s : Bool) (hG : ¬ goodR ⟨l, h, t, s, g⟩) (hm : l.length ≤ 1000) (v : Value) (w0 : World) (hv : RegsAt w0 v l) :
    Calls Try.prog 23 #[.agg #[v, .int .i64 h, .int .i64 t, .bool s, .int .i64 g]] w0 fun e w' => e = .returned (.tuple #[.agg (bvs (zs 128)), errV 2]) ∧ Below w0.heap.size w0 w' := by
  obtain ⟨p1, c1, rfl, _⟩ := hv.slice
  have hC := fun (w : World) hw => check_any l h t g s (.slice p1 l.length c1) w hw (by omega)
  rw [decide_eq_false hG] at hC
  have hS := St.start w0
  go_enter Try.func23, Try.ntmps23
  repeat' (first | ((with_reducible refine Ad ?_); first | ((first | refine Bn Aa ?_ | refine Bm Aa ?_ | refine Az Aa ?_ | refine Bf Aa Ab hS ?_ | refine Bi Aa Ab hS ?_ | refine Ag Aa ?_ | refine Af Aa ?_ | refine Bs Aa ?_ | refine Ao Aa ?_ | refine Bw Aa ?_ | refine Be Aa ?_ | refine Bg Aa ?_ | refine Bv Aa (fun hc => ?_) (fun hc => ?_) | refine Ay Aa ?_ | refine Am Aa ?_ | refine Ah Aa ?_ | refine g_neqSlNil Aa ?_ | refine Ae Aa ?_ | refine Bj Aa ?_ | refine Bk Aa ?_) <;> refine Ac ?_) | ((first | refine Bh Aa Ab hS ?_ | refine Bt Aa Ab hS ?_ | refine Ba Aa Ab hS ?_ | refine Bd Aa Ab hS ?_); clear hS; intro b w hS; refine Ac ?_) | ((first | refine Au Aa Ab hS ?_ | refine Bb Aa Ab hS ?_); clear hS; intro w hS; refine Ac ?_) | (refine Cb Aa Ab hS (hC _ (hv.below hS.below)) ?_; clear hS; intro w hS; refine Ac ?_)) | ((fail_if_success (with_reducible refine Ad ?_)); first | go_step | go_step3 | rw [Exit.noGoto_normal] | rw [Exit.noGoto_ret] | rw [Exit.noGoto_exit]))
  exact De (n := 128) Try.results23 (by kernel_rfl) (.inl rfl) _ _ _ _ rfl rfl (hS.blk 0 rfl) (by rw [← csz_is]; exact (show csz (bvs (zs 128)) = 128 by rw [Ce, zs_len])) ⟨rfl, hS.below⟩
end Go.Proofs.Ytkfggilildiflac

namespace Go.Proofs.Ytkfggilildiflac
open Go.ChangeShapes Go.WideShapes Go.ChangeAt Go.RowKit
attribute [local irreducible] wpList wpListIn Oper.quietAt wpM
theorem bytes_from {w : World} {b o n c : Nat} {l : List UInt8} (h : BytesAt w (.slice (some ⟨b, o, none⟩) n c) l) (k : Nat) (hkn : k ≤ n) : BytesAt w (.slice (some ⟨b, o + k, none⟩) (n - k) (c - k)) (l.drop k) := by
  obtain ⟨p', c', hv, h1, h0, h3⟩ := h
  simp only [Value.slice.injEq] at hv
  obtain ⟨rfl, rfl, rfl⟩ := hv
  refine ⟨_, c - k, by rw [List.length_drop], by rw [List.length_drop]; omega, (fun hn => by cases hn), fun hne => ?_⟩
  obtain ⟨b', o', cs, t, e, hp, hb, hx⟩ := h3 (fun e => hne (by rw [e, List.drop_nil]))
  simp only [Option.some.injEq, Addr.mk.injEq, and_true] at hp
  obtain ⟨rfl, rfl⟩ := hp
  refine ⟨b, o + k, cs, t, e, rfl, hb, fun i x hi => ?_⟩
  rw [List.getElem?_drop] at hi
  rw [Nat.add_assoc]
  exact hx _ _ hi
def sN (l : List UInt8) : Int := wrap64 (beN l : Int)
theorem or_i64 (N c : Nat) (hc : c < 256) : IntKind.i64.wrap (((BitVec.ofInt 64 (wrap64 ((N : Int) * 256)) ||| BitVec.ofInt 64 (c : Int)).toNat : Nat) : Int) = wrap64 ((N : Int) * 256 + (c : Int)) := by
  rw [BitVec.toNat_or, BitVec.toNat_ofInt, BitVec.toNat_ofInt]
  have e1 : (wrap64 ((N : Int) * 256) % ((2 ^ 64 : Nat) : Int)).toNat = N % 72057594037927936 * 256 := by
    unfold wrap64
    simp only [Nat.reducePow]
    omega
  have e2 : ((c : Int) % ((2 ^ 64 : Nat) : Int)).toNat = c := by
    simp only [Nat.reducePow]
    omega
  rw [e1, e2, or_byte _ _ hc, wrap_is]
  unfold wrap64
  omega
set_option maxRecDepth 10000 in
theorem r_shlI {P : Program} {o : Oper} {a : Act} {w : World} {t t' : TypeId} {x : Operand} {n : Int} {N : Nat} (hop : o.op = .binOp .shl t x (.const (.int .u64 8)) t') (hx : evO a x = some (.int .i64 n)) (hn : n = wrap64 (N : Int)) : (execOp a.eval o).run P w = .ok (.value (.int .i64 (wrap64 ((N : Int) * 256)))) w := by
  unfold execOp; rw [hop]; subst hn
  have hy : evO a (.const (.int .u64 8)) = some (.int .u64 8) := rfl
  have h3 : IntKind.i64.wrap (wrap64 (N : Int) * 256) = wrap64 ((N : Int) * 256) := by
    rw [wrap_is]
    unfold wrap64
    omega
  have h4 : Op.shift .shl .i64 (wrap64 (N : Int)) .u64 8 = pure (.int .i64 (wrap64 ((N : Int) * 256))) := by rw [← h3]; rfl
  generalize wrap64 (N : Int) = m at *
  generalize wrap64 ((N : Int) * 256) = m2 at *
  simp only [Ct hx, Ct hy, Sem.run_bind]
  rw [show (eqGuard .shl t x (.const (.int .u64 8)) (.int .i64 m) (.int .u64 8)).run P w = .ok () w by unfold eqGuard; rfl]
  rw [Result.andThen_ok, show binOp .shl t (.int .i64 m) (.int .u64 8) = Op.shift .shl .i64 m .u64 8 from rfl, h4]
  rfl
set_option maxRecDepth 100000 in
theorem r_orI {P : Program} {o : Oper} {a : Act} {w : World} {t t' : TypeId} {x y : Operand} {n : Int} {N : Nat} {z : UInt8} {q : Int} (hop : o.op = .binOp .or t x y t') (hx : evO a x = some (.int .i64 n)) (hy : evO a y = some (.int .i64 (z.toNat : Int))) (hn : n = wrap64 ((N : Int) * 256)) (hq : wrap64 ((N : Int) * 256 + (z.toNat : Int)) = q) : (execOp a.eval o).run P w = .ok (.value (.int .i64 q)) w := by
  subst hn hq
  have h := or_i64 N z.toNat (UInt8.toNat_lt z)
  have h4 : Op.intBits .or .i64 (wrap64 ((N : Int) * 256)) (z.toNat : Int) = pure (.int .i64 (wrap64 ((N : Int) * 256 + (z.toNat : Int)))) := by rw [← h]; rfl
  generalize wrap64 ((N : Int) * 256 + (z.toNat : Int)) = m2 at *
  generalize wrap64 ((N : Int) * 256) = m at *
  generalize (z.toNat : Int) = m3 at *
  clear h
  unfold execOp; rw [hop]
  simp only [Ct hx, Ct hy, Sem.run_bind]
  rw [show (eqGuard .or t x y (.int .i64 m) (.int .i64 m3)).run P w = .ok () w by unfold eqGuard; rfl]
  rw [Result.andThen_ok, show binOp .or t (.int .i64 m) (.int .i64 m3) = Op.intBits .or .i64 m m3 from rfl, h4]
  rfl
theorem beN_next {l : List UInt8} {k : Nat} (h : k < l.length) : (beN (l.take (k + 1)) : Int) = (beN (l.take k) : Int) * 256 + ((l.getD k 0).toNat : Int) := by
  rw [beN_take (List.getElem?_eq_getElem h), List.getD_eq_getElem?_getD, List.getElem?_eq_getElem h, Int.natCast_add, Int.natCast_mul]
  rfl
set_option maxRecDepth 100000 in
set_option maxHeartbeats 4000000 in
theorem take_8 (X Y : List UInt8) (hX : X.length = 8) (hY : Y ≠ []) (hm : Y.length ≤ 1000) (v : Value) (w0 : World) (hv : BytesAt w0 v (X ++ Y)) :
    Calls Try.prog 62 #[v, .int .i64 8] w0 fun e w' => ∃ sv, e = .returned (.tuple #[.int .i64 (sN X), sv, .nilIface]) ∧ OwnB w0.heap.size w' sv Y ∧ Below w0.heap.size w0 w' := by
  have hY0 : 0 < Y.length := List.length_pos_iff.2 hY
  have hlen : (X ++ Y).length = 8 + Y.length := by rw [List.length_append, hX]
  obtain ⟨p, c, rfl, hc⟩ := hv.slice
  obtain ⟨_, _, e1, _, _, h3⟩ := id hv
  simp only [Value.slice.injEq] at e1
  obtain ⟨rfl, _, rfl⟩ := e1
  obtain ⟨b1, o1, cs, ty, fr, rfl, hb, hx⟩ := h3 (by intro e; rw [e] at hlen; simp at hlen; omega)
  have hvf := bytes_from hv 8 (by omega)
  rw [List.drop_left' hX] at hvf
  rw [hlen] at hc hvf ⊢
  have hcs : o1 + (8 + Y.length) ≤ csz cs := by
    have h9 := hx (8 + Y.length - 1) _ (List.getElem?_eq_getElem (by rw [hlen]; omega))
    have := (Array.getElem?_eq_some_iff.1 h9).1
    unfold csz
    omega
  have hS := St.start w0
  go_enter Try.func62, Try.ntmps62
  repeat' (first | ((with_reducible refine Ad ?_); first | ((first | refine Bn Aa ?_ | refine Bm Aa ?_ | refine Az Aa ?_ | refine Bf Aa Ab hS ?_ | refine Ag Aa ?_ | refine Af Aa ?_ | refine Bs Aa ?_ | refine Bw Aa ?_ | refine Be Aa ?_ | refine Bg Aa ?_ | refine Bv Aa (fun hc => ?_) (fun hc => ?_) | refine Ae Aa ?_ | refine Bp Aa ?_ | refine Bo Aa ?_ | refine Bu Aa ?_ | refine Bc Aa ?_ | refine As Aa ?_ | refine Ak Aa ?_) <;> refine Ac ?_) | (refine Cb Aa Ab hS (sized_8 _) ?_; clear hS; intro w hS; refine Ac ?_)) | ((fail_if_success (with_reducible refine Ad ?_)); first | go_step | go_step3 | rw [Exit.noGoto_normal] | rw [Exit.noGoto_ret] | rw [Exit.noGoto_exit]))
  go_loopw [7, 9, 24] (fun u7 u9 u24 wr => ∃ k : Nat, k ≤ 8 ∧ u24 = .int .i64 (k : Int) ∧ u7 = .int .i64 (wrap64 ((beN (X.take k) : Nat) : Int)) ∧ St w0 wr []) (fun _ _ u24 _ => 8 - (intOf u24).toNat)
  case atStart => exact ⟨0, by omega, rfl, congrArg (Value.int .i64) (by rw [List.take_zero, beN_nil]; unfold wrap64; omega), hS⟩
  case round =>
    obtain ⟨k, hk, rfl, rfl, hS⟩ := hrel
    by_cases hlt : k < 8
    · have hbn := beN_next (l := X) (k := k) (by omega)
      have hcell : cs[o1 + k]? = some (.int .u8 ((X.getD k 0).toNat : Int)) := hx k _ (by rw [List.getElem?_append_left (by omega), List.getD_eq_getElem?_getD, List.getElem?_eq_getElem (show k < X.length by omega)]; rfl)
      obtain ⟨z, hz⟩ : ∃ z, X.getD k 0 = z := ⟨_, rfl⟩
      rw [hz] at hcell hbn
      have hz2 := UInt8.toNat_lt z
      repeat' (first | ((with_reducible refine Ad ?_); first | ((first | refine Bn Aa ?_ | refine Bm Aa ?_ | refine Az Aa ?_ | refine Bf Aa Ab hS ?_ (hv := by first | rfl | exact Bl | (rw [Array.getElem?_toList]; first | exact hcell)) | refine Dp Aa (by first | exact ((hS).far hb).1) ?_ (hv := by first | rfl | exact Bl | (rw [Array.getElem?_toList]; first | exact hcell)) | refine Ag Aa ?_ | refine Af Aa ?_ | refine Bs Aa ?_ | refine Bw Aa ?_ | refine Be Aa ?_ | refine Bg Aa ?_ | refine Bv Aa (fun hc => ?_) (fun hc => ?_) | refine Ae Aa ?_ | refine Bp Aa ?_ | refine Bo Aa ?_ | refine Bu Aa ?_ | refine Bc Aa ?_ | refine As Aa ?_ | refine Ak Aa ?_) <;> refine Ac ?_) | (refine Stp.go Aa (by rfl) (by rfl) (r_shlI (by rfl) (by rfl) rfl) ?_; refine Ac ?_) | (refine Stp.go Aa (by rfl) (by rfl) (r_orI (by rfl) (by rfl) (by rfl) rfl (by rw [← hbn])) ?_; refine Ac ?_)) | ((fail_if_success (with_reducible refine Ad ?_)); first | go_step | go_step3 | rw [Exit.noGoto_normal] | rw [Exit.noGoto_ret] | rw [Exit.noGoto_exit]))
      go_roundw
      case rel => exact ⟨k + 1, by omega, by push_cast; rfl, rfl, hS⟩
      case measure => first | (simp [intOf]; done) | (simp [intOf]; omega)
    · obtain rfl : k = 8 := by omega
      rw [List.take_of_length_le (by omega)]
      repeat' (first | ((with_reducible refine Ad ?_); first | ((first | refine Bn Aa ?_ | refine Bm Aa ?_ | refine Az Aa ?_ | refine Bf Aa Ab hS ?_ | refine Ag Aa ?_ | refine Af Aa ?_ | refine Bs Aa ?_ | refine Bw Aa ?_ | refine Be Aa ?_ | refine Bg Aa ?_ | refine Bv Aa (fun hc => ?_) (fun hc => ?_) | refine Ae Aa ?_ | refine Bp Aa ?_ | refine Bo Aa ?_ | refine Bu Aa ?_ | refine Bc Aa ?_ | refine As Aa ?_ | refine Ak Aa ?_) <;> refine Ac ?_)) | ((fail_if_success (with_reducible refine Ad ?_)); first | go_step | go_step3 | rw [Exit.noGoto_normal] | rw [Exit.noGoto_ret] | rw [Exit.noGoto_exit]))
      refine s_call Aa (by rfl) (by rfl) (by rfl) (by rfl) (by rfl) (by infer_instance) (cloneB _ Y (fun e => absurd e hY) (by omega) _ (hvf.below hS.below)) ?_
      rintro e w1 ⟨sv, rfl, ho, hB⟩
      obtain ⟨p7, c7, rfl⟩ := ho.slice
      refine ⟨_, rfl, ?_⟩
      refine Ac ?_
      obtain ⟨Lr, hR, hS2⟩ := ho.join hS hB
      replace hS := hS2
      clear hS2 ho hB
      repeat' (first | ((with_reducible refine Ad ?_); first | ((first | refine Bn Aa ?_ | refine Bm Aa ?_ | refine Az Aa ?_ | refine Bf Aa Ab hS ?_ | refine Ag Aa ?_ | refine Af Aa ?_ | refine Bs Aa ?_ | refine Bw Aa ?_ | refine Be Aa ?_ | refine Bg Aa ?_ | refine Bv Aa (fun hc => ?_) (fun hc => ?_) | refine Ae Aa ?_ | refine Bp Aa ?_ | refine Bo Aa ?_ | refine Bu Aa ?_ | refine Bc Aa ?_ | refine As Aa ?_ | refine Ak Aa ?_) <;> refine Ac ?_)) | ((fail_if_success (with_reducible refine Ad ?_)); first | go_step | go_step3 | rw [Exit.noGoto_normal] | rw [Exit.noGoto_ret] | rw [Exit.noGoto_exit]))
      exact bodyPost_ret (v := .tuple #[.int .i64 (wrap64 ((beN X : Nat) : Int)), .slice p7 Y.length c7, .nilIface]) (by simp [results, Try.results62, go_sem]) rfl ⟨_, rfl, hR.own hS (by intro x hx; simp [hx]), hS.below⟩
set_option maxRecDepth 100000 in
set_option maxHeartbeats 4000000 in
theorem take_1 (X Y : List UInt8) (hX : X.length = 1) (hY : Y ≠ []) (hm : Y.length ≤ 1000) (v : Value) (w0 : World) (hv : BytesAt w0 v (X ++ Y)) :
    Calls Try.prog 62 #[v, .int .i64 1] w0 fun e w' => ∃ sv, e = .returned (.tuple #[.int .i64 (sN X), sv, .nilIface]) ∧ OwnB w0.heap.size w' sv Y ∧ Below w0.heap.size w0 w' := by
  have hY0 : 0 < Y.length := List.length_pos_iff.2 hY
  have hlen : (X ++ Y).length = 1 + Y.length := by rw [List.length_append, hX]
  obtain ⟨p, c, rfl, hc⟩ := hv.slice
  obtain ⟨_, _, e1, _, _, h3⟩ := id hv
  simp only [Value.slice.injEq] at e1
  obtain ⟨rfl, _, rfl⟩ := e1
  obtain ⟨b1, o1, cs, ty, fr, rfl, hb, hx⟩ := h3 (by intro e; rw [e] at hlen; simp at hlen; omega)
  have hvf := bytes_from hv 1 (by omega)
  rw [List.drop_left' hX] at hvf
  rw [hlen] at hc hvf ⊢
  have hcs : o1 + (1 + Y.length) ≤ csz cs := by
    have h9 := hx (1 + Y.length - 1) _ (List.getElem?_eq_getElem (by rw [hlen]; omega))
    have := (Array.getElem?_eq_some_iff.1 h9).1
    unfold csz
    omega
  have hS := St.start w0
  go_enter Try.func62, Try.ntmps62
  repeat' (first | ((with_reducible refine Ad ?_); first | ((first | refine Bn Aa ?_ | refine Bm Aa ?_ | refine Az Aa ?_ | refine Bf Aa Ab hS ?_ | refine Ag Aa ?_ | refine Af Aa ?_ | refine Bs Aa ?_ | refine Bw Aa ?_ | refine Be Aa ?_ | refine Bg Aa ?_ | refine Bv Aa (fun hc => ?_) (fun hc => ?_) | refine Ae Aa ?_ | refine Bp Aa ?_ | refine Bo Aa ?_ | refine Bu Aa ?_ | refine Bc Aa ?_ | refine As Aa ?_ | refine Ak Aa ?_) <;> refine Ac ?_) | (refine Cb Aa Ab hS (sized_1 _) ?_; clear hS; intro w hS; refine Ac ?_)) | ((fail_if_success (with_reducible refine Ad ?_)); first | go_step | go_step3 | rw [Exit.noGoto_normal] | rw [Exit.noGoto_ret] | rw [Exit.noGoto_exit]))
  go_loopw [7, 9, 24] (fun u7 u9 u24 wr => ∃ k : Nat, k ≤ 1 ∧ u24 = .int .i64 (k : Int) ∧ u7 = .int .i64 (wrap64 ((beN (X.take k) : Nat) : Int)) ∧ St w0 wr []) (fun _ _ u24 _ => 1 - (intOf u24).toNat)
  case atStart => exact ⟨0, by omega, rfl, congrArg (Value.int .i64) (by rw [List.take_zero, beN_nil]; unfold wrap64; omega), hS⟩
  case round =>
    obtain ⟨k, hk, rfl, rfl, hS⟩ := hrel
    by_cases hlt : k < 1
    · have hbn := beN_next (l := X) (k := k) (by omega)
      have hcell : cs[o1 + k]? = some (.int .u8 ((X.getD k 0).toNat : Int)) := hx k _ (by rw [List.getElem?_append_left (by omega), List.getD_eq_getElem?_getD, List.getElem?_eq_getElem (show k < X.length by omega)]; rfl)
      obtain ⟨z, hz⟩ : ∃ z, X.getD k 0 = z := ⟨_, rfl⟩
      rw [hz] at hcell hbn
      have hz2 := UInt8.toNat_lt z
      repeat' (first | ((with_reducible refine Ad ?_); first | ((first | refine Bn Aa ?_ | refine Bm Aa ?_ | refine Az Aa ?_ | refine Bf Aa Ab hS ?_ (hv := by first | rfl | exact Bl | (rw [Array.getElem?_toList]; first | exact hcell)) | refine Dp Aa (by first | exact ((hS).far hb).1) ?_ (hv := by first | rfl | exact Bl | (rw [Array.getElem?_toList]; first | exact hcell)) | refine Ag Aa ?_ | refine Af Aa ?_ | refine Bs Aa ?_ | refine Bw Aa ?_ | refine Be Aa ?_ | refine Bg Aa ?_ | refine Bv Aa (fun hc => ?_) (fun hc => ?_) | refine Ae Aa ?_ | refine Bp Aa ?_ | refine Bo Aa ?_ | refine Bu Aa ?_ | refine Bc Aa ?_ | refine As Aa ?_ | refine Ak Aa ?_) <;> refine Ac ?_) | (refine Stp.go Aa (by rfl) (by rfl) (r_shlI (by rfl) (by rfl) rfl) ?_; refine Ac ?_) | (refine Stp.go Aa (by rfl) (by rfl) (r_orI (by rfl) (by rfl) (by rfl) rfl (by rw [← hbn])) ?_; refine Ac ?_)) | ((fail_if_success (with_reducible refine Ad ?_)); first | go_step | go_step3 | rw [Exit.noGoto_normal] | rw [Exit.noGoto_ret] | rw [Exit.noGoto_exit]))
      go_roundw
      case rel => exact ⟨k + 1, by omega, by push_cast; rfl, rfl, hS⟩
      case measure => first | (simp [intOf]; done) | (simp [intOf]; omega)
    · obtain rfl : k = 1 := by omega
      rw [List.take_of_length_le (by omega)]
      repeat' (first | ((with_reducible refine Ad ?_); first | ((first | refine Bn Aa ?_ | refine Bm Aa ?_ | refine Az Aa ?_ | refine Bf Aa Ab hS ?_ | refine Ag Aa ?_ | refine Af Aa ?_ | refine Bs Aa ?_ | refine Bw Aa ?_ | refine Be Aa ?_ | refine Bg Aa ?_ | refine Bv Aa (fun hc => ?_) (fun hc => ?_) | refine Ae Aa ?_ | refine Bp Aa ?_ | refine Bo Aa ?_ | refine Bu Aa ?_ | refine Bc Aa ?_ | refine As Aa ?_ | refine Ak Aa ?_) <;> refine Ac ?_)) | ((fail_if_success (with_reducible refine Ad ?_)); first | go_step | go_step3 | rw [Exit.noGoto_normal] | rw [Exit.noGoto_ret] | rw [Exit.noGoto_exit]))
      refine s_call Aa (by rfl) (by rfl) (by rfl) (by rfl) (by rfl) (by infer_instance) (cloneB _ Y (fun e => absurd e hY) (by omega) _ (hvf.below hS.below)) ?_
      rintro e w1 ⟨sv, rfl, ho, hB⟩
      obtain ⟨p7, c7, rfl⟩ := ho.slice
      refine ⟨_, rfl, ?_⟩
      refine Ac ?_
      obtain ⟨Lr, hR, hS2⟩ := ho.join hS hB
      replace hS := hS2
      clear hS2 ho hB
      repeat' (first | ((with_reducible refine Ad ?_); first | ((first | refine Bn Aa ?_ | refine Bm Aa ?_ | refine Az Aa ?_ | refine Bf Aa Ab hS ?_ | refine Ag Aa ?_ | refine Af Aa ?_ | refine Bs Aa ?_ | refine Bw Aa ?_ | refine Be Aa ?_ | refine Bg Aa ?_ | refine Bv Aa (fun hc => ?_) (fun hc => ?_) | refine Ae Aa ?_ | refine Bp Aa ?_ | refine Bo Aa ?_ | refine Bu Aa ?_ | refine Bc Aa ?_ | refine As Aa ?_ | refine Ak Aa ?_) <;> refine Ac ?_)) | ((fail_if_success (with_reducible refine Ad ?_)); first | go_step | go_step3 | rw [Exit.noGoto_normal] | rw [Exit.noGoto_ret] | rw [Exit.noGoto_exit]))
      exact bodyPost_ret (v := .tuple #[.int .i64 (wrap64 ((beN X : Nat) : Int)), .slice p7 Y.length c7, .nilIface]) (by simp [results, Try.results62, go_sem]) rfl ⟨_, rfl, hR.own hS (by intro x hx; simp [hx]), hS.below⟩
end Go.Proofs.Ytkfggilildiflac

namespace Go.Proofs.Ytkfggilildiflac
open Go.ChangeShapes Go.WideShapes Go.ChangeAt Go.RowKit
attribute [local irreducible] wpList wpListIn Oper.quietAt wpM
set_option maxRecDepth 100000 in
set_option maxHeartbeats 4000000 in
theorem next_8 (X Y : List UInt8) (hX : X.length = 8) (hY : Y ≠ []) (hm : Y.length ≤ 1000) (sv : Value) (rb : Nat) (L : List Blk) (W0 w0 : World) (hS : St W0 w0 ((rb, #[sv], 84) :: L)) (hv : BytesAt w0 sv (X ++ Y)) :
    Calls Try.prog 48 #[.pointer (some ⟨rb, 0, none⟩), .int .i64 8] w0 fun e w' => ∃ sv' Lr', e = .returned (.int .i64 (sN X)) ∧ BL Y sv' Lr' ∧ St W0 w' ((rb, #[sv'], 84) :: (Lr' ++ L)) := by
  obtain ⟨p, c, rfl, hc⟩ := hv.slice
  go_enter Try.func48, Try.ntmps48
  repeat' (first | ((with_reducible refine Ad ?_); first | ((first | refine Bn Aa ?_ | refine Bm Aa ?_ | refine Az Aa ?_ | refine Bf Aa Ab hS ?_ | refine Ao Aa ?_ | refine Be Aa ?_ | refine Bg Aa ?_ | refine Bv Aa (fun hc => ?_) (fun hc => ?_) | refine Aw Aa ?_ | refine Ap Aa ?_ | refine Ah Aa ?_ | refine Aj Aa ?_ | refine Aq Aa ?_) <;> refine Ac ?_) | ((first | refine Av Aa Ab hS ?_); clear hS; intro w hS; refine Ac ?_)) | ((fail_if_success (with_reducible refine Ad ?_)); first | go_step | go_step3 | rw [Exit.noGoto_normal] | rw [Exit.noGoto_ret] | rw [Exit.noGoto_exit]))
  refine s_call Aa (by rfl) (by rfl) (by rfl) (by rfl) (by rfl) (by infer_instance) (take_8 X Y hX hY hm _ _ hv) ?_
  rintro e w1 ⟨sv', rfl, ho, hB⟩
  refine ⟨_, rfl, ?_⟩
  refine Ac ?_
  obtain ⟨Lr, hR, hS2⟩ := ho.join hS hB
  rcases hR with ⟨_, e0, _⟩ | ⟨g, c2, sp, rfl, h1, h2, h3, rfl⟩
  · exact absurd e0 hY
  simp only [List.cons_append, List.nil_append] at hS2
  replace hS := hS2.perm (.swap _ _ _)
  clear hS2 ho hB
  repeat' (first | ((with_reducible refine Ad ?_); first | ((first | refine Bn Aa ?_ | refine Bm Aa ?_ | refine Az Aa ?_ | refine Bf Aa Ab hS ?_ | refine Ao Aa ?_ | refine Be Aa ?_ | refine Bg Aa ?_ | refine Bv Aa (fun hc => ?_) (fun hc => ?_) | refine Aw Aa ?_ | refine Ap Aa ?_ | refine Ah Aa ?_ | refine Aj Aa ?_ | refine Aq Aa ?_) <;> refine Ac ?_) | ((first | refine Av Aa Ab hS ?_); clear hS; intro w hS; refine Ac ?_)) | ((fail_if_success (with_reducible refine Ad ?_)); first | go_step | go_step3 | rw [Exit.noGoto_normal] | rw [Exit.noGoto_ret] | rw [Exit.noGoto_exit]))
  go_ret
  exact ⟨_, [_], rfl, .inr ⟨g, c2, sp, rfl, h1, h2, h3, rfl⟩, hS⟩
set_option maxRecDepth 100000 in
set_option maxHeartbeats 4000000 in
theorem next_1 (X Y : List UInt8) (hX : X.length = 1) (hY : Y ≠ []) (hm : Y.length ≤ 1000) (sv : Value) (rb : Nat) (L : List Blk) (W0 w0 : World) (hS : St W0 w0 ((rb, #[sv], 84) :: L)) (hv : BytesAt w0 sv (X ++ Y)) :
    Calls Try.prog 48 #[.pointer (some ⟨rb, 0, none⟩), .int .i64 1] w0 fun e w' => ∃ sv' Lr', e = .returned (.int .i64 (sN X)) ∧ BL Y sv' Lr' ∧ St W0 w' ((rb, #[sv'], 84) :: (Lr' ++ L)) := by
  obtain ⟨p, c, rfl, hc⟩ := hv.slice
  go_enter Try.func48, Try.ntmps48
  repeat' (first | ((with_reducible refine Ad ?_); first | ((first | refine Bn Aa ?_ | refine Bm Aa ?_ | refine Az Aa ?_ | refine Bf Aa Ab hS ?_ | refine Ao Aa ?_ | refine Be Aa ?_ | refine Bg Aa ?_ | refine Bv Aa (fun hc => ?_) (fun hc => ?_) | refine Aw Aa ?_ | refine Ap Aa ?_ | refine Ah Aa ?_ | refine Aj Aa ?_ | refine Aq Aa ?_) <;> refine Ac ?_) | ((first | refine Av Aa Ab hS ?_); clear hS; intro w hS; refine Ac ?_)) | ((fail_if_success (with_reducible refine Ad ?_)); first | go_step | go_step3 | rw [Exit.noGoto_normal] | rw [Exit.noGoto_ret] | rw [Exit.noGoto_exit]))
  refine s_call Aa (by rfl) (by rfl) (by rfl) (by rfl) (by rfl) (by infer_instance) (take_1 X Y hX hY hm _ _ hv) ?_
  rintro e w1 ⟨sv', rfl, ho, hB⟩
  refine ⟨_, rfl, ?_⟩
  refine Ac ?_
  obtain ⟨Lr, hR, hS2⟩ := ho.join hS hB
  rcases hR with ⟨_, e0, _⟩ | ⟨g, c2, sp, rfl, h1, h2, h3, rfl⟩
  · exact absurd e0 hY
  simp only [List.cons_append, List.nil_append] at hS2
  replace hS := hS2.perm (.swap _ _ _)
  clear hS2 ho hB
  repeat' (first | ((with_reducible refine Ad ?_); first | ((first | refine Bn Aa ?_ | refine Bm Aa ?_ | refine Az Aa ?_ | refine Bf Aa Ab hS ?_ | refine Ao Aa ?_ | refine Be Aa ?_ | refine Bg Aa ?_ | refine Bv Aa (fun hc => ?_) (fun hc => ?_) | refine Aw Aa ?_ | refine Ap Aa ?_ | refine Ah Aa ?_ | refine Aj Aa ?_ | refine Aq Aa ?_) <;> refine Ac ?_) | ((first | refine Av Aa Ab hS ?_); clear hS; intro w hS; refine Ac ?_)) | ((fail_if_success (with_reducible refine Ad ?_)); first | go_step | go_step3 | rw [Exit.noGoto_normal] | rw [Exit.noGoto_ret] | rw [Exit.noGoto_exit]))
  go_ret
  exact ⟨_, [_], rfl, .inr ⟨g, c2, sp, rfl, h1, h2, h3, rfl⟩, hS⟩
theorem start_off (l : List Rg) (h t g : Int) (v : Value) (w0 : World) (hv : RegsAt w0 v l) :
    Calls Try.prog 25 #[.agg #[v, .int .i64 h, .int .i64 t, .bool false, .int .i64 g]] w0 fun e w' => e = .returned (.agg #[.slice none 0 0, .int .i64 (-1), .int .i64 0, .bool false, .int .i64 0]) ∧ Below w0.heap.size w0 w' := by
  obtain ⟨p1, c1, rfl, _⟩ := hv.slice
  have hS := St.start w0
  go_enter Try.func25, Try.ntmps25
  repeat' (first | ((with_reducible refine Ad ?_); first | ((first | refine Bn Aa ?_ | refine Bf Aa Ab hS ?_ | refine Bi Aa Ab hS ?_ | refine Ah Aa ?_ | refine Bu Aa ?_) <;> refine Ac ?_) | ((first | refine Bh Aa Ab hS ?_ | refine Bt Aa Ab hS ?_); clear hS; intro b w hS; refine Ac ?_) | ((first | refine Au Aa Ab hS ?_ | refine Bb Aa Ab hS ?_); clear hS; intro w hS; refine Ac ?_) | (refine Cb Aa Ab hS (none_any _) ?_; clear hS; intro w hS; refine Ac ?_)) | ((fail_if_success (with_reducible refine Ad ?_)); first | go_step | go_step3 | rw [Exit.noGoto_normal] | rw [Exit.noGoto_ret] | rw [Exit.noGoto_exit]))
  exact post_cell (n := 5) Try.results25 (by kernel_rfl) (.inl rfl) _ _ _ _ rfl rfl (hS.blk 0 rfl) (by rfl) ⟨rfl, hS.below⟩
theorem start_on (l : List Rg) (h t g : Int) (v : Value) (w0 : World) (hv : RegsAt w0 v l) (hm : l.length ≤ 1000000) :
    Calls Try.prog 25 #[.agg #[v, .int .i64 h, .int .i64 t, .bool true, .int .i64 g]] w0 fun e w' => ∃ sv, e = .returned (.agg #[sv, .int .i64 h, .int .i64 t, .bool true, .int .i64 g]) ∧ OwnRegs w0.heap.size w' sv l ∧ Below w0.heap.size w0 w' := by
  obtain ⟨p1, c1, rfl, _⟩ := hv.slice
  have hS := St.start w0
  go_enter Try.func25, Try.ntmps25
  repeat' (first | ((with_reducible refine Ad ?_); first | ((first | refine Bn Aa ?_ | refine Bf Aa Ab hS ?_ | refine Bi Aa Ab hS ?_ | refine Ah Aa ?_ | refine Bu Aa ?_) <;> refine Ac ?_) | ((first | refine Bh Aa Ab hS ?_ | refine Bt Aa Ab hS ?_); clear hS; intro b w hS; refine Ac ?_) | ((first | refine Au Aa Ab hS ?_ | refine Bb Aa Ab hS ?_); clear hS; intro w hS; refine Ac ?_)) | ((fail_if_success (with_reducible refine Ad ?_)); first | go_step | go_step3 | rw [Exit.noGoto_normal] | rw [Exit.noGoto_ret] | rw [Exit.noGoto_exit]))
  refine s_call Aa (by rfl) (by rfl) (by rfl) (by rfl) (by rfl) (by infer_instance) (copied_any l _ h t g true _ (hv.below hS.below) hm) ?_
  rintro e w1 ⟨sv, rfl, ho, hB⟩
  obtain ⟨p2, c2, rfl⟩ := ho.slice
  refine ⟨_, rfl, ?_⟩
  refine Ac ?_
  obtain ⟨Lr, hR, hS2⟩ := ho.join hS hB
  simp only [List.cons_append, List.nil_append] at hS2
  replace hS := hS2
  clear hS2 ho hB
  repeat' (first | ((with_reducible refine Ad ?_); first | ((first | refine Bn Aa ?_ | refine Bf Aa Ab hS ?_ | refine Bi Aa Ab hS ?_ | refine Ah Aa ?_ | refine Bu Aa ?_) <;> refine Ac ?_) | ((first | refine Bh Aa Ab hS ?_ | refine Bt Aa Ab hS ?_); clear hS; intro b w hS; refine Ac ?_) | ((first | refine Au Aa Ab hS ?_ | refine Bb Aa Ab hS ?_); clear hS; intro w hS; refine Ac ?_)) | ((fail_if_success (with_reducible refine Ad ?_)); first | go_step | go_step3 | rw [Exit.noGoto_normal] | rw [Exit.noGoto_ret] | rw [Exit.noGoto_exit]))
  exact post_cell (n := 5) Try.results25 (by kernel_rfl) (.inl rfl) _ _ _ _ rfl rfl (hS.blk 0 rfl) (by rfl) ⟨_, rfl, hR.own (L := [_, _]) (hS.perm (List.perm_append_comm (l₁ := [_, _]))), hS.below⟩
end Go.Proofs.Ytkfggilildiflac
