/-
  The law RedoMixed: for every two entries and all numbers it answers true. No condition.
-/
import Derived.Test.YtcjncidahjneaaaRows
import Derived.Test.YtcjncidahjneaaaJO0

namespace Go.Proofs.Ytcjncidahjneaaa
open Go.ChangeShapes Go.WideShapes Go.ChangeAt Go.RowKit
attribute [local irreducible] wpList wpListIn Oper.quietAt wpM
attribute [local irreducible] encL DecOk putsD cntR cellN rowP tagL
def intC (n : Int) : List Value := [.int .i64 n]
theorem pasteC {X C : List UInt8} {k m : Nat} (hX : X.length = 128 * m) (hk : k < m) (hC : C.length = 128) : paste (bvs X) (k * 128) (bvs C) = bvs (setC X k C) := by
  unfold setC
  by_cases h : k * 128 = 0 ∧ X.length = C.length
  · have h0 : k = 0 := by omega
    subst h0
    rw [show 0 * 128 = 0 from rfl, paste_whole _ _ (by rw [Bg, Bg, h.2])]
    rw [List.take_zero, List.nil_append, List.drop_of_length_le (by omega), List.append_nil]
  · have e : paste (bvs X) (k * 128) (bvs C) = bvs (X.take (k * 128) ++ C ++ X.drop (k * 128 + C.length)) := by
      unfold paste splice bvs
      rw [if_neg (by rw [Bm, Bm, List.length_map, List.length_map]; exact h)]
      simp
    rw [e, hC, Nat.mul_comm k 128]
theorem intC_map (l : List Int) : l.flatMap intC = l.map fun n => .int .i64 n := by
  induction l with
  | nil => rfl
  | cons a l ih => rw [List.flatMap_cons, List.map_cons, ih]; rfl
theorem zs_app (a b : Nat) : zs (a + b) = zs a ++ zs b := by unfold zs; rw [List.replicate_append_replicate]
theorem celX_app {A B : List UInt8} {i : Nat} (h : 128 * (i + 1) ≤ A.length) : celX (A ++ B) i = celX A i := by
  unfold celX
  rw [List.drop_append_of_le_length (by omega), List.take_append_of_le_length (by rw [List.length_drop]; omega)]
theorem dec_true {key X : List UInt8} {n : Nat} (hX : X.length = 128 * n) (h : DecOk key X n) : okP (putsD X) ∧ (putsD X).length ≤ 56 ∧ tagL key (celX X 0 ++ bodyL (putsD X)) = (celX X 1).take 32 ∧ 2 ≤ n := by
  obtain ⟨h1, h2, h3⟩ : 2 ≤ n ∧ 2 + saysR (celX X 0) ≤ n ∧ tagC key (celX X 0) (putsD X) = celX X 1 := by
    unfold DecOk at h
    exact ⟨h.1, h.2.1, h.2.2.2.2.2⟩
  have h4 := putsD_ok hX (k := saysR (celX X 0)) h2
  have h5 := putsD_len X
  rw [List.take_of_length_le (by rw [h5]; exact Nat.le_refl _)] at h4
  refine ⟨h4, by rw [h5]; exact saysR_le _, ?_, h1⟩
  rw [← h3]
  unfold tagC
  rw [List.take_left' (tagL_len _ _)]
theorem celX_bytes32 {cs : Array Value} {b o i k c m : Nat} {X : List UInt8} {w : World} {t : TypeId} {fr : Nat × Nat} (h : X.length = 128 * k) (hi : i < k) (hb : blk w b = some (.cells cs t fr)) (hc : ∀ j x, X[j]? = some x → cs[o + j]? = some (bv x)) (hm : m = o + i * 128) (h2 : 32 ≤ c) : BytesAt w (.slice (some ⟨b, m, none⟩) 32 c) ((celX X i).take 32) := by
  subst hm
  have hl := celX_len h hi
  exact bytesAt_blk hb (by rw [List.length_take]; omega) h2 fun j x hj => by
    have hjl := (List.getElem?_eq_some_iff.1 hj).1
    rw [List.length_take] at hjl
    rw [List.getElem?_take, if_pos (by omega)] at hj
    unfold celX at hj
    rw [List.getElem?_take, if_pos (by omega), List.getElem?_drop] at hj
    have := hc _ _ hj
    rw [show o + i * 128 + j = o + (128 * i + j) by omega]
    exact this
set_option maxRecDepth 100000 in
set_option maxHeartbeats 8000000 in
theorem redoMixed_any (key k2 : List UInt8) (n1 n2 m1 m2 : Int) (hn1 : -9223372036854775808 ≤ n1 ∧ n1 ≤ 9223372036854775807) (hn2 : -9223372036854775808 ≤ n2 ∧ n2 ≤ 9223372036854775807) (l1 l2 : List Rw) (ps : List Int) (kv kv2 v1 v2 pv : Value) (w0 : World) (hkv : BytesAt w0 kv key) (hkv2 : BytesAt w0 kv2 k2) (hv1 : RwAt w0 v1 l1) (hv2 : RwAt w0 v2 l2) (hps : OwAt intC w0 pv ps) :
    Calls Try.prog 7 #[.agg #[kv, .int .i64 n1, v1, .int .i64 m1], .agg #[kv2, .int .i64 n2, v2, .int .i64 m2], pv] w0 fun e w' => e = .returned (.bool true) ∧ Below w0.heap.size w0 w' := by
  obtain ⟨pk, ck, rfl, _⟩ := hkv.slice
  obtain ⟨pk2, ck2, rfl, _⟩ := hkv2.slice
  obtain ⟨p1, c1, hp1⟩ : ∃ p c, v1 = .slice p l1.length c := by obtain ⟨_, _, p, c, h, _⟩ := hv1; exact ⟨p, c, h⟩
  obtain ⟨p2, c2, hp2⟩ : ∃ p c, v2 = .slice p l2.length c := by obtain ⟨_, _, p, c, h, _⟩ := hv2; exact ⟨p, c, h⟩
  subst hp1 hp2
  obtain ⟨pp, cp, rfl, hcp, hp0, _⟩ := id hps
  have hS := St.start w0
  by_cases hb1 : 1000 < key.length ∨ 70 < l1.length
  · have hlg := fun w h1 h2 => large_yes l1 key hb1 (.slice pk key.length ck) (.slice p1 l1.length c1) w h1 h2
    go_enter Try.func7, Try.ntmps7
    repeat' (first | ((with_reducible refine Ac ?_); first | ((first | refine Ai Aa ?_ | refine Al Aa ?_ | refine Af Aa ?_ | refine Av Aa Ab hS ?_ | refine Ba Aa Ab hS ?_ | refine Ag Aa ?_ | refine Ae Aa ?_ | refine Be Aa ?_ | refine g_cap Aa ?_ | refine Bl Aa ?_ | refine Bd Aa ?_ | refine Cj Aa ?_ | refine Ca Aa ?_ | refine Cz Aa ?_ | refine Cq Aa ?_ | refine Ak Aa ?_ | refine Aj Aa ?_ | refine Aw Aa (fun hc => ?_) (fun hc => ?_) | refine Cg Aa ?_ | refine Bz Aa ?_ | refine Ck Aa ?_ | refine Cd Aa ?_ | refine Az Aa ?_ | refine g_field1 Aa ?_ | refine g_fieldR Aa ?_ | refine Bx Aa ?_ | refine Bu Aa ?_ | refine Ax Aa ?_ | refine Dj Aa ?_ | refine Bq Aa ?_ | refine Bk Aa ?_ | refine Bw Aa ?_ | refine Bh Aa ?_ | refine Bc Aa ?_ | refine Au Aa ?_ | refine g_nilCheck Aa ?_ | refine Cp Aa ?_ | refine Ar Aa ?_) <;> refine Ad ?_) | ((first | refine Ay Aa Ab hS ?_ | refine Cu Aa Ab hS ?_ | refine Ao Aa Ab hS ?_ | refine As Aa Ab hS ?_ | refine g_make Aa Ab hS ?_); clear hS; intro b w hS; refine Ad ?_) | ((first | refine Br Aa Ab hS ?_ | refine Ap Aa Ab hS ?_ | refine Aq Aa Ab hS ?_); clear hS; intro w hS; refine Ad ?_) | (refine Ce Aa Ab hS (hlg _ (hkv.below hS.below) (hv1.below hS.below)) ?_; clear hS; intro w hS; refine Ad ?_)) | ((fail_if_success (with_reducible refine Ac ?_)); first | go_step | go_step3 | rw [Exit.noGoto_normal] | rw [Exit.noGoto_ret] | rw [Exit.noGoto_exit]))
    go_ret
    exact ⟨rfl, hS.below⟩
  have hk : key.length ≤ 1000 := by omega
  have hl1 : l1.length ≤ 70 := by omega
  have hlg := fun w h1 h2 => large_no l1 hl1 key hk (.slice pk key.length ck) (.slice p1 l1.length c1) w h1 h2
  by_cases hb2 : 70 < l2.length
  · have hlg2 := fun w h1 h2 => large_yes l2 key (.inr hb2) (.slice pk key.length ck) (.slice p2 l2.length c2) w h1 h2
    go_enter Try.func7, Try.ntmps7
    repeat' (first | ((with_reducible refine Ac ?_); first | ((first | refine Ai Aa ?_ | refine Al Aa ?_ | refine Af Aa ?_ | refine Av Aa Ab hS ?_ | refine Ba Aa Ab hS ?_ | refine Ag Aa ?_ | refine Ae Aa ?_ | refine Be Aa ?_ | refine g_cap Aa ?_ | refine Bl Aa ?_ | refine Bd Aa ?_ | refine Cj Aa ?_ | refine Ca Aa ?_ | refine Cz Aa ?_ | refine Cq Aa ?_ | refine Ak Aa ?_ | refine Aj Aa ?_ | refine Aw Aa (fun hc => ?_) (fun hc => ?_) | refine Cg Aa ?_ | refine Bz Aa ?_ | refine Ck Aa ?_ | refine Cd Aa ?_ | refine Az Aa ?_ | refine g_field1 Aa ?_ | refine g_fieldR Aa ?_ | refine Bx Aa ?_ | refine Bu Aa ?_ | refine Ax Aa ?_ | refine Dj Aa ?_ | refine Bq Aa ?_ | refine Bk Aa ?_ | refine Bw Aa ?_ | refine Bh Aa ?_ | refine Bc Aa ?_ | refine Au Aa ?_ | refine g_nilCheck Aa ?_ | refine Cp Aa ?_ | refine Ar Aa ?_) <;> refine Ad ?_) | ((first | refine Ay Aa Ab hS ?_ | refine Cu Aa Ab hS ?_ | refine Ao Aa Ab hS ?_ | refine As Aa Ab hS ?_ | refine g_make Aa Ab hS ?_); clear hS; intro b w hS; refine Ad ?_) | ((first | refine Br Aa Ab hS ?_ | refine Ap Aa Ab hS ?_ | refine Aq Aa Ab hS ?_); clear hS; intro w hS; refine Ad ?_) | (refine Ce Aa Ab hS (hlg _ (hkv.below hS.below) (hv1.below hS.below)) ?_; clear hS; intro w hS; refine Ad ?_) | (refine Ce Aa Ab hS (hlg2 _ (hkv.below hS.below) (hv2.below hS.below)) ?_; clear hS; intro w hS; refine Ad ?_)) | ((fail_if_success (with_reducible refine Ac ?_)); first | go_step | go_step3 | rw [Exit.noGoto_normal] | rw [Exit.noGoto_ret] | rw [Exit.noGoto_exit]))
    go_ret
    exact ⟨rfl, hS.below⟩
  have hl2 : l2.length ≤ 70 := by omega
  have hlg2 := fun w h1 h2 => large_no l2 hl2 key hk (.slice pk key.length ck) (.slice p2 l2.length c2) w h1 h2
  by_cases hb3 : 100 < ps.length
  · go_enter Try.func7, Try.ntmps7
    repeat' (first | ((with_reducible refine Ac ?_); first | ((first | refine Ai Aa ?_ | refine Al Aa ?_ | refine Af Aa ?_ | refine Av Aa Ab hS ?_ | refine Ba Aa Ab hS ?_ | refine Ag Aa ?_ | refine Ae Aa ?_ | refine Be Aa ?_ | refine g_cap Aa ?_ | refine Bl Aa ?_ | refine Bd Aa ?_ | refine Cj Aa ?_ | refine Ca Aa ?_ | refine Cz Aa ?_ | refine Cq Aa ?_ | refine Ak Aa ?_ | refine Aj Aa ?_ | refine Aw Aa (fun hc => ?_) (fun hc => ?_) | refine Cg Aa ?_ | refine Bz Aa ?_ | refine Ck Aa ?_ | refine Cd Aa ?_ | refine Az Aa ?_ | refine g_field1 Aa ?_ | refine g_fieldR Aa ?_ | refine Bx Aa ?_ | refine Bu Aa ?_ | refine Ax Aa ?_ | refine Dj Aa ?_ | refine Bq Aa ?_ | refine Bk Aa ?_ | refine Bw Aa ?_ | refine Bh Aa ?_ | refine Bc Aa ?_ | refine Au Aa ?_ | refine g_nilCheck Aa ?_ | refine Cp Aa ?_ | refine Ar Aa ?_) <;> refine Ad ?_) | ((first | refine Ay Aa Ab hS ?_ | refine Cu Aa Ab hS ?_ | refine Ao Aa Ab hS ?_ | refine As Aa Ab hS ?_ | refine g_make Aa Ab hS ?_); clear hS; intro b w hS; refine Ad ?_) | ((first | refine Br Aa Ab hS ?_ | refine Ap Aa Ab hS ?_ | refine Aq Aa Ab hS ?_); clear hS; intro w hS; refine Ad ?_) | (refine Ce Aa Ab hS (hlg _ (hkv.below hS.below) (hv1.below hS.below)) ?_; clear hS; intro w hS; refine Ad ?_) | (refine Ce Aa Ab hS (hlg2 _ (hkv.below hS.below) (hv2.below hS.below)) ?_; clear hS; intro w hS; refine Ad ?_)) | ((fail_if_success (with_reducible refine Ac ?_)); first | go_step | go_step3 | rw [Exit.noGoto_normal] | rw [Exit.noGoto_ret] | rw [Exit.noGoto_exit]))
    go_ret
    exact ⟨rfl, hS.below⟩
  have hok1 := rowP_ok hv1
  have hok2 := rowP_ok hv2
  have hrl1 := rowP_len l1
  have hrl2 := rowP_len l2
  have hpu1 := fun w h => phiP_puts l1 (by omega) (.slice p1 l1.length c1) w h
  have hpu2 := fun w h => phiP_puts l2 (by omega) (.slice p2 l2.length c2) w h
  obtain ⟨O, lO, h7, hone⟩ := one_enc
  clear h7 lO hb1 hb2
  obtain ⟨L1, hL1⟩ : ∃ L, rowP l1 = L := ⟨_, rfl⟩
  obtain ⟨L2, hL2⟩ : ∃ L, rowP l2 = L := ⟨_, rfl⟩
  rw [hL1] at hok1 hrl1 hpu1
  rw [hL2] at hok2 hrl2 hpu2
  obtain ⟨q1, hq1⟩ : ∃ q, l1.length = q := ⟨_, rfl⟩
  obtain ⟨q2, hq2⟩ : ∃ q, l2.length = q := ⟨_, rfl⟩
  rw [hq1] at hrl1 hpu1 hv1 hlg hl1 ⊢
  rw [hq2] at hrl2 hpu2 hv2 hlg2 hl2 ⊢
  have hen1 := fun v w h1 h2 => phiR_enc key (by omega) n1 L1 (by omega) hok1 (.slice pk key.length ck) v w h1 (m := q1) h2 hrl1
  have hen2 := fun v w h1 h2 => phiR_enc key (by omega) n2 L2 (by omega) hok2 (.slice pk key.length ck) v w h1 (m := q2) h2 hrl2
  obtain ⟨G1, hG1⟩ : ∃ G, (0 ≤ n1 ∧ soundP L1) = G := ⟨_, rfl⟩
  obtain ⟨G2, hG2⟩ : ∃ G, (0 ≤ n2 ∧ soundP L2) = G := ⟨_, rfl⟩
  obtain ⟨E1, hE1⟩ : ∃ E, encL key n1 L1 = E := ⟨_, rfl⟩
  obtain ⟨E2, hE2⟩ : ∃ E, encL key n2 L2 = E := ⟨_, rfl⟩
  rw [hG1, hE1] at hen1
  rw [hG2, hE2] at hen2
  go_enter Try.func7, Try.ntmps7
  repeat' (first | ((with_reducible refine Ac ?_); first | ((first | refine Ai Aa ?_ | refine Al Aa ?_ | refine Af Aa ?_ | refine Av Aa Ab hS ?_ | refine Ba Aa Ab hS ?_ | refine Ag Aa ?_ | refine Ae Aa ?_ | refine Be Aa ?_ | refine g_cap Aa ?_ | refine Bl Aa ?_ | refine Bd Aa ?_ | refine Cj Aa ?_ | refine Ca Aa ?_ | refine Cz Aa ?_ | refine Cq Aa ?_ | refine Ak Aa ?_ | refine Aj Aa ?_ | refine Aw Aa (fun hc => ?_) (fun hc => ?_) | refine Cg Aa ?_ | refine Bz Aa ?_ | refine Ck Aa ?_ | refine Cd Aa ?_ | refine Az Aa ?_ | refine g_field1 Aa ?_ | refine g_fieldR Aa ?_ | refine Bx Aa ?_ | refine Bu Aa ?_ | refine Ax Aa ?_ | refine Dj Aa ?_ | refine Bq Aa ?_ | refine Bk Aa ?_ | refine Bw Aa ?_ | refine Bh Aa ?_ | refine Bc Aa ?_ | refine Au Aa ?_ | refine g_nilCheck Aa ?_ | refine Cp Aa ?_ | refine Ar Aa ?_) <;> refine Ad ?_) | ((first | refine Ay Aa Ab hS ?_ | refine Cu Aa Ab hS ?_ | refine Ao Aa Ab hS ?_ | refine As Aa Ab hS ?_ | refine g_make Aa Ab hS ?_); clear hS; intro b w hS; refine Ad ?_) | ((first | refine Br Aa Ab hS ?_ | refine Ap Aa Ab hS ?_ | refine Aq Aa Ab hS ?_); clear hS; intro w hS; refine Ad ?_) | (refine Ce Aa Ab hS (hlg _ (hkv.below hS.below) (hv1.below hS.below)) ?_; clear hS; intro w hS; refine Ad ?_) | (refine Ce Aa Ab hS (hlg2 _ (hkv.below hS.below) (hv2.below hS.below)) ?_; clear hS; intro w hS; refine Ad ?_)) | ((fail_if_success (with_reducible refine Ac ?_)); first | go_step | go_step3 | rw [Exit.noGoto_normal] | rw [Exit.noGoto_ret] | rw [Exit.noGoto_exit]))
  refine s_call Aa (by rfl) (by rfl) (by rfl) (by rfl) (by rfl) (by infer_instance) (hone _) ?_
  rintro e w1 ⟨g, c3, sp, rfl, k1, k2', k3, k4, k5, hB⟩
  refine ⟨_, rfl, ?_⟩
  refine Ad ?_
  replace hS := Ab.call hS hB
  clear k1 k2' k3 k4 k5 hB hone
  repeat' (first | ((with_reducible refine Ac ?_); first | ((first | refine Ai Aa ?_ | refine Al Aa ?_ | refine Af Aa ?_ | refine Av Aa Ab hS ?_ | refine Ba Aa Ab hS ?_ | refine Ag Aa ?_ | refine Ae Aa ?_ | refine Be Aa ?_ | refine g_cap Aa ?_ | refine Bl Aa ?_ | refine Bd Aa ?_ | refine Cj Aa ?_ | refine Ca Aa ?_ | refine Cz Aa ?_ | refine Cq Aa ?_ | refine Ak Aa ?_ | refine Aj Aa ?_ | refine Aw Aa (fun hc => ?_) (fun hc => ?_) | refine Cg Aa ?_ | refine Bz Aa ?_ | refine Ck Aa ?_ | refine Cd Aa ?_ | refine Az Aa ?_ | refine g_field1 Aa ?_ | refine g_fieldR Aa ?_ | refine Bx Aa ?_ | refine Bu Aa ?_ | refine Ax Aa ?_ | refine Dj Aa ?_ | refine Bq Aa ?_ | refine Bk Aa ?_ | refine Bw Aa ?_ | refine Bh Aa ?_ | refine Bc Aa ?_ | refine Au Aa ?_ | refine g_nilCheck Aa ?_ | refine Cp Aa ?_ | refine Ar Aa ?_) <;> refine Ad ?_) | ((first | refine Ay Aa Ab hS ?_ | refine Cu Aa Ab hS ?_ | refine Ao Aa Ab hS ?_ | refine As Aa Ab hS ?_ | refine g_make Aa Ab hS ?_); clear hS; intro b w hS; refine Ad ?_) | ((first | refine Br Aa Ab hS ?_ | refine Ap Aa Ab hS ?_ | refine Aq Aa Ab hS ?_); clear hS; intro w hS; refine Ad ?_)) | ((fail_if_success (with_reducible refine Ac ?_)); first | go_step | go_step3 | rw [Exit.noGoto_normal] | rw [Exit.noGoto_ret] | rw [Exit.noGoto_exit]))
  refine MV.region_val_lit 12 (by kernel_rfl) (by kernel_rfl) ?_
  dsimp only [List.take, List.drop]
  iterate 12 (first | (refine MV.wpV_skip (fun _ => rfl) ?_; simp only [Act.put, List.setIfInBounds_toArray, List.set_cons_zero, List.set_cons_succ]) | (refine MV.wpV_want (fun _ => rfl) (fun K hK => ?_); apply Exists.intro; refine ⟨fun pB w' hw' hF => ?_, hK _ _ ?_⟩; (focus (have hZ := (Ab).call hS hw'; first | exact q_move | exact Dh | exact q_load1 Ab hZ | exact q_loadR Ab hZ | exact Ci | exact Cb | exact q_len | exact q_cap | exact Cy | exact q_add | exact q_sub | exact q_mul | exact q_quo | exact q_rem | exact q_cmp_t | exact q_cmp_f | exact De | exact Cx | exact Df | exact Cv | exact Ch | exact Di | exact Dg | exact Cm | exact Co | exact Bt | exact Cl | exact q_conv | exact q_pick | exact q_not | exact Db | exact Ct | exact Cc | exact Dk | exact Dl | exact Cs)); clear hK K; simp only [Act.put, List.setIfInBounds_toArray, List.set_cons_zero, List.set_cons_succ]) | (refine MV.wpV_same (PhiP q1 L1) (phiP_mon _ _) (fun _ => rfl) (fun bb w' hw' hF => ?_) ?_; (focus (have hZ := (Ab).call hS hw'; exact MV.yields_call (hpu1 _ (hv1.below hZ.below)))); simp only [Act.put, List.setIfInBounds_toArray, List.set_cons_zero, List.set_cons_succ]) | (refine MV.wpV_same (PhiR G1 (q1 + 2) E1) (phiR_mon _ _ _) (fun _ => rfl) (fun bb w' hw' hF => ?_) ?_; (focus (have hZ := (Ab).call hS hw'; exact MV.yields_call (hen1 _ _ (hkv.below hZ.below) (MV.FactsAt.at (Φ := PhiP q1 L1) 6 hF)))); simp only [Act.put, List.setIfInBounds_toArray, List.set_cons_zero, List.set_cons_succ]) | (refine MV.wpV_same (PhiR G1 (q1 + 2) E1) (phiR_mon _ _ _) (fun _ => rfl) (fun bb w' hw' hF => ?_) ?_; (focus (have hZ := (Ab).call hS hw'; exact yields_move ⟨MV.FactsAt.at (Φ := PhiR G1 (q1 + 2) E1) 7 hF, Below.refl _ _⟩)); simp only [Act.put, List.setIfInBounds_toArray, List.set_cons_zero, List.set_cons_succ]) | (refine MV.wpV_same (PhiS G1 (q1 + 2) E1) (phiS_mon _ _ _) (fun _ => rfl) (fun bb w' hw' hF => ?_) ?_; (focus (have hZ := (Ab).call hS hw'; exact yields_ext0 (MV.FactsAt.at (Φ := PhiR G1 (q1 + 2) E1) 8 hF))); simp only [Act.put, List.setIfInBounds_toArray, List.set_cons_zero, List.set_cons_succ]) | (refine MV.wpV_same (PhiT G1) (phiT_mon _) (fun _ => rfl) (fun bb w' hw' hF => ?_) ?_; (focus (have hZ := (Ab).call hS hw'; exact yields_ext1 (MV.FactsAt.at (Φ := PhiR G1 (q1 + 2) E1) 8 hF))); simp only [Act.put, List.setIfInBounds_toArray, List.set_cons_zero, List.set_cons_succ]) | (refine MV.wpV_same (PhiS G1 (q1 + 2) E1) (phiS_mon _ _ _) (fun _ => rfl) (fun bb w' hw' hF => ?_) ?_; (focus (have hZ := (Ab).call hS hw'; exact yields_assign ⟨MV.FactsAt.at (Φ := PhiS G1 (q1 + 2) E1) 9 hF, Below.refl _ _⟩)); simp only [Act.put, List.setIfInBounds_toArray, List.set_cons_zero, List.set_cons_succ]))
  refine MV.wpV_nil ?_
  intro bb w hcq hfq
  replace hS := (Ab).call hS hcq
  try dsimp only
  have fT1 := hfq (10, PhiT G1) (by simp)
  have fS1 := hfq (11, PhiS G1 (q1 + 2) E1) (by simp)
  dsimp only at fT1 fS1
  obtain ⟨T1, hT1⟩ : ∃ x, bb (0 + 1 + 1 + 1 + 1 + 1 + 1 + 1 + 1 + 1 + 1) = x := ⟨_, rfl⟩
  obtain ⟨X1, hX1⟩ : ∃ x, bb (0 + 1 + 1 + 1 + 1 + 1 + 1 + 1 + 1 + 1 + 1 + 1) = x := ⟨_, rfl⟩
  rw [hT1, hX1]
  rw [show bb 10 = T1 from hT1] at fT1
  rw [show bb 11 = X1 from hX1] at fS1
  clear hfq hT1 hX1
  repeat' (first | ((with_reducible refine Ac ?_); first | ((first | refine Ai Aa ?_ | refine Al Aa ?_ | refine Af Aa ?_ | refine Av Aa Ab hS ?_ | refine Ba Aa Ab hS ?_ | refine Ag Aa ?_ | refine Ae Aa ?_ | refine Be Aa ?_ | refine g_cap Aa ?_ | refine Bl Aa ?_ | refine Bd Aa ?_ | refine Cj Aa ?_ | refine Ca Aa ?_ | refine Cz Aa ?_ | refine Cq Aa ?_ | refine Ak Aa ?_ | refine Aj Aa ?_ | refine Aw Aa (fun hc => ?_) (fun hc => ?_) | refine Cg Aa ?_ | refine Bz Aa ?_ | refine Ck Aa ?_ | refine Cd Aa ?_ | refine Az Aa ?_ | refine g_field1 Aa ?_ | refine g_fieldR Aa ?_ | refine Bx Aa ?_ | refine Bu Aa ?_ | refine Ax Aa ?_ | refine Dj Aa ?_ | refine Bq Aa ?_ | refine Bk Aa ?_ | refine Bw Aa ?_ | refine Bh Aa ?_ | refine Bc Aa ?_ | refine Au Aa ?_ | refine g_nilCheck Aa ?_ | refine Cp Aa ?_ | refine Ar Aa ?_) <;> refine Ad ?_) | ((first | refine Ay Aa Ab hS ?_ | refine Cu Aa Ab hS ?_ | refine Ao Aa Ab hS ?_ | refine As Aa Ab hS ?_ | refine g_make Aa Ab hS ?_); clear hS; intro b w hS; refine Ad ?_) | ((first | refine Br Aa Ab hS ?_ | refine Ap Aa Ab hS ?_ | refine Aq Aa Ab hS ?_); clear hS; intro w hS; refine Ad ?_)) | ((fail_if_success (with_reducible refine Ac ?_)); first | go_step | go_step3 | rw [Exit.noGoto_normal] | rw [Exit.noGoto_ret] | rw [Exit.noGoto_exit]))
  clear hcq
  refine MV.region_val_lit 12 (by kernel_rfl) (by kernel_rfl) ?_
  dsimp only [List.take, List.drop]
  iterate 12 (first | (refine MV.wpV_skip (fun _ => rfl) ?_; simp only [Act.put, List.setIfInBounds_toArray, List.set_cons_zero, List.set_cons_succ]) | (refine MV.wpV_want (fun _ => rfl) (fun K hK => ?_); apply Exists.intro; refine ⟨fun pB w' hw' hF => ?_, hK _ _ ?_⟩; (focus (have hZ := (Ab).call hS hw'; first | exact q_move | exact Dh | exact q_load1 Ab hZ | exact q_loadR Ab hZ | exact Ci | exact Cb | exact q_len | exact q_cap | exact Cy | exact q_add | exact q_sub | exact q_mul | exact q_quo | exact q_rem | exact q_cmp_t | exact q_cmp_f | exact De | exact Cx | exact Df | exact Cv | exact Ch | exact Di | exact Dg | exact Cm | exact Co | exact Bt | exact Cl | exact q_conv | exact q_pick | exact q_not | exact Db | exact Ct | exact Cc | exact Dk | exact Dl | exact Cs)); clear hK K; simp only [Act.put, List.setIfInBounds_toArray, List.set_cons_zero, List.set_cons_succ]) | (refine MV.wpV_same (PhiP q2 L2) (phiP_mon _ _) (fun _ => rfl) (fun bb w' hw' hF => ?_) ?_; (focus (have hZ := (Ab).call hS hw'; exact MV.yields_call (hpu2 _ (hv2.below hZ.below)))); simp only [Act.put, List.setIfInBounds_toArray, List.set_cons_zero, List.set_cons_succ]) | (refine MV.wpV_same (PhiR G2 (q2 + 2) E2) (phiR_mon _ _ _) (fun _ => rfl) (fun bb w' hw' hF => ?_) ?_; (focus (have hZ := (Ab).call hS hw'; exact MV.yields_call (hen2 _ _ (hkv.below hZ.below) (MV.FactsAt.at (Φ := PhiP q2 L2) 6 hF)))); simp only [Act.put, List.setIfInBounds_toArray, List.set_cons_zero, List.set_cons_succ]) | (refine MV.wpV_same (PhiR G2 (q2 + 2) E2) (phiR_mon _ _ _) (fun _ => rfl) (fun bb w' hw' hF => ?_) ?_; (focus (have hZ := (Ab).call hS hw'; exact yields_move ⟨MV.FactsAt.at (Φ := PhiR G2 (q2 + 2) E2) 7 hF, Below.refl _ _⟩)); simp only [Act.put, List.setIfInBounds_toArray, List.set_cons_zero, List.set_cons_succ]) | (refine MV.wpV_same (PhiS G2 (q2 + 2) E2) (phiS_mon _ _ _) (fun _ => rfl) (fun bb w' hw' hF => ?_) ?_; (focus (have hZ := (Ab).call hS hw'; exact yields_ext0 (MV.FactsAt.at (Φ := PhiR G2 (q2 + 2) E2) 8 hF))); simp only [Act.put, List.setIfInBounds_toArray, List.set_cons_zero, List.set_cons_succ]) | (refine MV.wpV_same (PhiT G2) (phiT_mon _) (fun _ => rfl) (fun bb w' hw' hF => ?_) ?_; (focus (have hZ := (Ab).call hS hw'; exact yields_ext1 (MV.FactsAt.at (Φ := PhiR G2 (q2 + 2) E2) 8 hF))); simp only [Act.put, List.setIfInBounds_toArray, List.set_cons_zero, List.set_cons_succ]) | (refine MV.wpV_same (PhiS G2 (q2 + 2) E2) (phiS_mon _ _ _) (fun _ => rfl) (fun bb w' hw' hF => ?_) ?_; (focus (have hZ := (Ab).call hS hw'; exact yields_assign ⟨MV.FactsAt.at (Φ := PhiS G2 (q2 + 2) E2) 9 hF, Below.refl _ _⟩)); simp only [Act.put, List.setIfInBounds_toArray, List.set_cons_zero, List.set_cons_succ]))
  refine MV.wpV_nil ?_
  intro bb w hcq hfq
  replace hS := (Ab).call hS hcq
  try dsimp only
  have fT2 := hfq (10, PhiT G2) (by simp)
  have fS2 := hfq (11, PhiS G2 (q2 + 2) E2) (by simp)
  dsimp only at fT2 fS2
  obtain ⟨T2, hT2⟩ : ∃ x, bb (0 + 1 + 1 + 1 + 1 + 1 + 1 + 1 + 1 + 1 + 1) = x := ⟨_, rfl⟩
  obtain ⟨X2, hX2⟩ : ∃ x, bb (0 + 1 + 1 + 1 + 1 + 1 + 1 + 1 + 1 + 1 + 1 + 1) = x := ⟨_, rfl⟩
  rw [hT2, hX2]
  rw [show bb 10 = T2 from hT2] at fT2
  rw [show bb 11 = X2 from hX2] at fS2
  clear hfq hT2 hX2
  repeat' (first | ((with_reducible refine Ac ?_); first | ((first | refine Ai Aa ?_ | refine Al Aa ?_ | refine Af Aa ?_ | refine Av Aa Ab hS ?_ | refine Ba Aa Ab hS ?_ | refine Ag Aa ?_ | refine Ae Aa ?_ | refine Be Aa ?_ | refine g_cap Aa ?_ | refine Bl Aa ?_ | refine Bd Aa ?_ | refine Cj Aa ?_ | refine Ca Aa ?_ | refine Cz Aa ?_ | refine Cq Aa ?_ | refine Ak Aa ?_ | refine Aj Aa ?_ | refine Aw Aa (fun hc => ?_) (fun hc => ?_) | refine Cg Aa ?_ | refine Bz Aa ?_ | refine Ck Aa ?_ | refine Cd Aa ?_ | refine Az Aa ?_ | refine g_field1 Aa ?_ | refine g_fieldR Aa ?_ | refine Bx Aa ?_ | refine Bu Aa ?_ | refine Ax Aa ?_ | refine Dj Aa ?_ | refine Bq Aa ?_ | refine Bk Aa ?_ | refine Bw Aa ?_ | refine Bh Aa ?_ | refine Bc Aa ?_ | refine Au Aa ?_ | refine g_nilCheck Aa ?_ | refine Cp Aa ?_ | refine Ar Aa ?_) <;> refine Ad ?_) | ((first | refine Ay Aa Ab hS ?_ | refine Cu Aa Ab hS ?_ | refine Ao Aa Ab hS ?_ | refine As Aa Ab hS ?_ | refine g_make Aa Ab hS ?_); clear hS; intro b w hS; refine Ad ?_) | ((first | refine Br Aa Ab hS ?_ | refine Ap Aa Ab hS ?_ | refine Aq Aa Ab hS ?_); clear hS; intro w hS; refine Ad ?_)) | ((fail_if_success (with_reducible refine Ac ?_)); first | go_step | go_step3 | rw [Exit.noGoto_normal] | rw [Exit.noGoto_ret] | rw [Exit.noGoto_exit]))
  replace fS1 := phiS_mon _ _ _ _ _ _ fS1 hcq
  clear hcq hen1 hen2 hlg hlg2
  by_cases hg1 : G1
  rotate_left
  · rcases fT1 with ⟨h, _⟩ | ⟨_, rfl⟩
    · exact absurd h hg1
    repeat' (first | ((with_reducible refine Ac ?_); first | ((first | refine Ai Aa ?_ | refine Al Aa ?_ | refine Af Aa ?_ | refine Av Aa Ab hS ?_ | refine Ba Aa Ab hS ?_ | refine Ag Aa ?_ | refine Ae Aa ?_ | refine Be Aa ?_ | refine g_cap Aa ?_ | refine Bl Aa ?_ | refine Bd Aa ?_ | refine Cj Aa ?_ | refine Ca Aa ?_ | refine Cz Aa ?_ | refine Cq Aa ?_ | refine Ak Aa ?_ | refine Aj Aa ?_ | refine Aw Aa (fun hc => ?_) (fun hc => ?_) | refine Cg Aa ?_ | refine Bz Aa ?_ | refine Ck Aa ?_ | refine Cd Aa ?_ | refine Az Aa ?_ | refine g_field1 Aa ?_ | refine g_fieldR Aa ?_ | refine Bx Aa ?_ | refine Bu Aa ?_ | refine Ax Aa ?_ | refine Dj Aa ?_ | refine Bq Aa ?_ | refine Bk Aa ?_ | refine Bw Aa ?_ | refine Bh Aa ?_ | refine Bc Aa ?_ | refine Au Aa ?_ | refine g_nilCheck Aa ?_ | refine Cp Aa ?_ | refine Ar Aa ?_) <;> refine Ad ?_) | ((first | refine Ay Aa Ab hS ?_ | refine Cu Aa Ab hS ?_ | refine Ao Aa Ab hS ?_ | refine As Aa Ab hS ?_ | refine g_make Aa Ab hS ?_); clear hS; intro b w hS; refine Ad ?_) | ((first | refine Br Aa Ab hS ?_ | refine Ap Aa Ab hS ?_ | refine Aq Aa Ab hS ?_); clear hS; intro w hS; refine Ad ?_)) | ((fail_if_success (with_reducible refine Ac ?_)); first | go_step | go_step3 | rw [Exit.noGoto_normal] | rw [Exit.noGoto_ret] | rw [Exit.noGoto_exit]))
    go_ret
    exact ⟨rfl, hS.below⟩
  by_cases hg2 : G2
  rotate_left
  · rcases fT1 with ⟨_, rfl⟩ | ⟨h, _⟩
    rotate_left
    · exact absurd hg1 h
    rcases fT2 with ⟨h, _⟩ | ⟨_, rfl⟩
    · exact absurd h hg2
    repeat' (first | ((with_reducible refine Ac ?_); first | ((first | refine Ai Aa ?_ | refine Al Aa ?_ | refine Af Aa ?_ | refine Av Aa Ab hS ?_ | refine Ba Aa Ab hS ?_ | refine Ag Aa ?_ | refine Ae Aa ?_ | refine Be Aa ?_ | refine g_cap Aa ?_ | refine Bl Aa ?_ | refine Bd Aa ?_ | refine Cj Aa ?_ | refine Ca Aa ?_ | refine Cz Aa ?_ | refine Cq Aa ?_ | refine Ak Aa ?_ | refine Aj Aa ?_ | refine Aw Aa (fun hc => ?_) (fun hc => ?_) | refine Cg Aa ?_ | refine Bz Aa ?_ | refine Ck Aa ?_ | refine Cd Aa ?_ | refine Az Aa ?_ | refine g_field1 Aa ?_ | refine g_fieldR Aa ?_ | refine Bx Aa ?_ | refine Bu Aa ?_ | refine Ax Aa ?_ | refine Dj Aa ?_ | refine Bq Aa ?_ | refine Bk Aa ?_ | refine Bw Aa ?_ | refine Bh Aa ?_ | refine Bc Aa ?_ | refine Au Aa ?_ | refine g_nilCheck Aa ?_ | refine Cp Aa ?_ | refine Ar Aa ?_) <;> refine Ad ?_) | ((first | refine Ay Aa Ab hS ?_ | refine Cu Aa Ab hS ?_ | refine Ao Aa Ab hS ?_ | refine As Aa Ab hS ?_ | refine g_make Aa Ab hS ?_); clear hS; intro b w hS; refine Ad ?_) | ((first | refine Br Aa Ab hS ?_ | refine Ap Aa Ab hS ?_ | refine Aq Aa Ab hS ?_); clear hS; intro w hS; refine Ad ?_)) | ((fail_if_success (with_reducible refine Ac ?_)); first | go_step | go_step3 | rw [Exit.noGoto_normal] | rw [Exit.noGoto_ret] | rw [Exit.noGoto_exit]))
    go_ret
    exact ⟨rfl, hS.below⟩
  rcases fT1 with ⟨_, rfl⟩ | ⟨h, _⟩
  rotate_left
  · exact absurd hg1 h
  rcases fT2 with ⟨_, rfl⟩ | ⟨h, _⟩
  rotate_left
  · exact absurd hg2 h
  rcases fS1 with ⟨_, gx, cx, rfl, hC1⟩ | ⟨h, _⟩
  rotate_left
  · exact absurd hg1 h
  rcases fS2 with ⟨_, gy, cy, rfl, hC2⟩ | ⟨h, _⟩
  rotate_left
  · exact absurd hg2 h
  rw [← hG1] at hg1
  rw [← hG2] at hg2
  have lE1 := encL_len key n1 hok1 hg1.2.2.2
  have lE2 := encL_len key n2 hok2 hg2.2.2.2
  have h56a := hg1.2.2.2
  have h56b := hg2.2.2.2
  rw [hrl1] at lE1 h56a
  rw [hrl2] at lE2 h56b
  rw [hE1] at lE1
  rw [hE2] at lE2
  clear hG1 hG2 hE1 hE2 hg1 hg2
  obtain ⟨_, px, cx', e1, hcx, _, hcellx⟩ := hC1
  cases e1
  obtain ⟨_, _, csx, tyx, frx, e2, hbx, hccx⟩ := hcellx (by omega)
  cases e2
  obtain ⟨_, py, cy', e1, hcy, _, hcelly⟩ := hC2
  cases e1
  obtain ⟨_, _, csy, tyy, fry, e2, hby, hccy⟩ := hcelly (by omega)
  cases e2
  have hs3 := hS.blk 1 rfl
  have hs4 := hS.blk 0 rfl
  have hBW := hS.below
  replace hkv := hkv.below hBW
  replace hv1 := hv1.below hBW
  replace hv2 := hv2.below hBW
  replace hps := hps.below hBW
  obtain ⟨_, _, e1, _, _, hpc⟩ := hps
  cases e1
  clear hcellx hcelly hkv2
  have hS := St.start w
  obtain ⟨m, hm, hma, hmb, h58⟩ : ∃ m : Nat, max ((q1 + 2 : Nat) : Int) ((q2 + 2 : Nat) : Int) = (m : Int) ∧ q1 + 2 ≤ m ∧ q2 + 2 ≤ m ∧ m ≤ 58 :=
    ⟨if q1 ≤ q2 then q2 + 2 else q1 + 2, by rw [Int.max_def]; split <;> split <;> omega, by split <;> omega, by split <;> omega, by split <;> omega⟩
  repeat' (first | ((with_reducible refine Ac ?_); first | ((first | refine Ai Aa ?_ | refine Al Aa ?_ | refine Af Aa ?_ | refine Av Aa Ab hS ?_ | refine Ba Aa Ab hS ?_ | refine Ag Aa ?_ | refine Ae Aa ?_ | refine Be Aa ?_ | refine g_cap Aa ?_ | refine Bl Aa ?_ | refine Bd Aa ?_ | refine Cj Aa ?_ | refine Ca Aa ?_ | refine Cz Aa ?_ | refine Cq Aa ?_ | refine Ak Aa ?_ | refine Aj Aa ?_ | refine Aw Aa (fun hc => ?_) (fun hc => ?_) | refine Cg Aa ?_ | refine Bz Aa ?_ | refine Ck Aa ?_ | refine Cd Aa ?_ | refine Az Aa ?_ | refine g_field1 Aa ?_ | refine g_fieldR Aa ?_ | refine Bx Aa ?_ | refine Bu Aa ?_ | refine Ax Aa ?_ | refine Dj Aa ?_ | refine Bq Aa ?_ | refine Bk Aa ?_ | refine Bw Aa ?_ | refine Bh Aa ?_ | refine Bc Aa ?_ | refine Au Aa ?_ | refine g_nilCheck Aa ?_ | refine Cp Aa ?_ | refine Ar Aa ?_) <;> refine Ad ?_) | ((first | refine Ay Aa Ab hS ?_ | refine Cu Aa Ab hS ?_ | refine Ao Aa Ab hS ?_ | refine As Aa Ab hS ?_ | refine g_make Aa Ab hS ?_); clear hS; intro b w hS; refine Ad ?_) | ((first | refine Br Aa Ab hS ?_ | refine Ap Aa Ab hS ?_ | refine Aq Aa Ab hS ?_); clear hS; intro w hS; refine Ad ?_) | (refine Stp.go Aa (by rfl) (by rfl) (r_max (by rfl) (by rfl) (by rfl) hm) ?_; refine Ad ?_)) | ((fail_if_success (with_reducible refine Ac ?_)); first | go_step | go_step3 | rw [Exit.noGoto_normal] | rw [Exit.noGoto_ret] | rw [Exit.noGoto_exit]))
  refine s_makeC Aa Ab hS (by rfl) (by rfl) (by rfl) (by rfl) (by infer_instance) (by infer_instance) (by omega) ?_
  clear hS
  intro gl w2 hS
  refine Ad ?_
  repeat' (first | ((with_reducible refine Ac ?_); first | ((first | refine Ai Aa ?_ | refine Al Aa ?_ | refine Af Aa ?_ | refine Av Aa Ab hS ?_ | refine Ba Aa Ab hS ?_ | refine Ag Aa ?_ | refine Ae Aa ?_ | refine Be Aa ?_ | refine g_cap Aa ?_ | refine Bl Aa ?_ | refine Bd Aa ?_ | refine Cj Aa ?_ | refine Ca Aa ?_ | refine Cz Aa ?_ | refine Cq Aa ?_ | refine Ak Aa ?_ | refine Aj Aa ?_ | refine Aw Aa (fun hc => ?_) (fun hc => ?_) | refine Cg Aa ?_ | refine Bz Aa ?_ | refine Ck Aa ?_ | refine Cd Aa ?_ | refine Az Aa ?_ | refine g_field1 Aa ?_ | refine g_fieldR Aa ?_ | refine Bx Aa ?_ | refine Bu Aa ?_ | refine Ax Aa ?_ | refine Dj Aa ?_ | refine Bq Aa ?_ | refine Bk Aa ?_ | refine Bw Aa ?_ | refine Bh Aa ?_ | refine Bc Aa ?_ | refine Au Aa ?_ | refine g_nilCheck Aa ?_ | refine Cp Aa ?_ | refine Ar Aa ?_) <;> refine Ad ?_) | ((first | refine Ay Aa Ab hS ?_ | refine Cu Aa Ab hS ?_ | refine Ao Aa Ab hS ?_ | refine As Aa Ab hS ?_ | refine g_make Aa Ab hS ?_); clear hS; intro b w hS; refine Ad ?_) | ((first | refine Br Aa Ab hS ?_ | refine Ap Aa Ab hS ?_ | refine Aq Aa Ab hS ?_); clear hS; intro w hS; refine Ad ?_)) | ((fail_if_success (with_reducible refine Ac ?_)); first | go_step | go_step3 | rw [Exit.noGoto_normal] | rw [Exit.noGoto_ret] | rw [Exit.noGoto_exit]))
  have hzz : zs (128 * m) = zs (128 * (q1 + 2)) ++ zs (128 * (m - (q1 + 2))) := by rw [← zs_app]; congr 1; omega
  have sC128 : csz (bvs (zs (128 * m))) = 128 * m := by rw [Bg, zs_len]
  refine s_copyD (i := 0) (pre := []) (mid := (zs (128 * (q1 + 2))).map bv) (post := (zs (128 * (m - (q1 + 2)))).map bv) (xs := E1.map bv) (cs2 := bvs (E1 ++ zs (128 * (m - (q1 + 2))))) Aa Ab hS (by rfl) (by rfl) (by rfl) (by rfl) (by infer_instance) (by rfl) (by rw [List.nil_append, ← List.map_append, ← hzz]; rfl) rfl (by rw [List.length_map, List.length_map, zs_len, lE1]) (by rw [List.length_map, lE1, show Nat.min (q1 + 2) m = q1 + 2 from Nat.min_eq_left hma]; omega) (src_blk (hS.far hbx).1 (fun j v h => by
    rw [List.getElem?_map] at h
    cases hj : E1[j]? with
    | none => rw [hj] at h; cases h
    | some y => rw [hj] at h; cases h; rw [Array.getElem?_toList]; exact hccx j y hj)) (bv_one E1) (by rw [List.nil_append, ← List.map_append]; rfl) (by (try conv => lhs; simp only [List.set_cons_zero, List.set_cons_succ, List.eraseIdx_cons_zero, List.eraseIdx_cons_succ]); first | done | rfl) rfl ?_
  clear hS
  intro w3 hS
  have lZ : (E1 ++ zs (128 * (m - (q1 + 2)))).length = 128 * m := by rw [List.length_append, zs_len, lE1]; omega
  have hZ1 : celX (E1 ++ zs (128 * (m - (q1 + 2)))) 1 = celX E1 1 := celX_app (by omega)
  obtain ⟨Z, hZ⟩ : ∃ Z, E1 ++ zs (128 * (m - (q1 + 2))) = Z := ⟨_, rfl⟩
  rw [hZ] at hS lZ hZ1
  clear hzz sC128 hZ
  refine Ad ?_
  repeat' (first | ((with_reducible refine Ac ?_); first | ((first | refine Ai Aa ?_ | refine Al Aa ?_ | refine Af Aa ?_ | refine Av Aa Ab hS ?_ | refine Ba Aa Ab hS ?_ | refine Ag Aa ?_ | refine Ae Aa ?_ | refine Be Aa ?_ | refine g_cap Aa ?_ | refine Bl Aa ?_ | refine Bd Aa ?_ | refine Cj Aa ?_ | refine Ca Aa ?_ | refine Cz Aa ?_ | refine Cq Aa ?_ | refine Ak Aa ?_ | refine Aj Aa ?_ | refine Aw Aa (fun hc => ?_) (fun hc => ?_) | refine Cg Aa ?_ | refine Bz Aa ?_ | refine Ck Aa ?_ | refine Cd Aa ?_ | refine Az Aa ?_ | refine g_field1 Aa ?_ | refine g_fieldR Aa ?_ | refine Bx Aa ?_ | refine Bu Aa ?_ | refine Ax Aa ?_ | refine Dj Aa ?_ | refine Bq Aa ?_ | refine Bk Aa ?_ | refine Bw Aa ?_ | refine Bh Aa ?_ | refine Bc Aa ?_ | refine Au Aa ?_ | refine g_nilCheck Aa ?_ | refine Cp Aa ?_ | refine Ar Aa ?_) <;> refine Ad ?_) | ((first | refine Ay Aa Ab hS ?_ | refine Cu Aa Ab hS ?_ | refine Ao Aa Ab hS ?_ | refine As Aa Ab hS ?_ | refine g_make Aa Ab hS ?_); clear hS; intro b w hS; refine Ad ?_) | ((first | refine Br Aa Ab hS ?_ | refine Ap Aa Ab hS ?_ | refine Aq Aa Ab hS ?_); clear hS; intro w hS; refine Ad ?_)) | ((fail_if_success (with_reducible refine Ac ?_)); first | go_step | go_step3 | rw [Exit.noGoto_normal] | rw [Exit.noGoto_ret] | rw [Exit.noGoto_exit]))
  obtain ⟨np, hnp⟩ : ∃ n, ps.length = n := ⟨_, rfl⟩
  rw [hnp] at hb3 ⊢
  go_loopw [15, 90] (fun u15 u90 wr => ∃ (k : Nat) (Y : List UInt8), k ≤ np ∧ u90 = .int .i64 (k : Int) ∧ Y.length = 128 * m ∧ (celX Y 1 = celX E1 1 ∨ celX Y 1 = celX E2 1) ∧ St w wr [(gl, bvs Y, 30)]) (fun _ u90 _ => np - (intOf u90).toNat)
  case atStart => exact ⟨0, Z, by omega, rfl, lZ, .inl hZ1, hS⟩
  case round =>
    clear hS lZ hZ1
    obtain ⟨k, Y, hk1, rfl, lY, hY, hS⟩ := hrel
    by_cases hlt : k < np
    · obtain ⟨p, hp⟩ : ∃ p, ps[k]? = some p := ⟨_, List.getElem?_eq_getElem (by omega)⟩
      obtain ⟨b5, o5, cs5, t5, fr5, rfl, hb5, hc5⟩ := hpc (by intro e; rw [e] at hnp; simp at hnp; omega)
      have hat := hc5 k (.int .i64 p) (by rw [intC_map, List.getElem?_map, hp]; rfl)
      have hsz : o5 + k < csz cs5 := by rw [csz_is]; exact (Array.getElem?_eq_some_iff.1 hat).1
      have sY : csz (bvs Y) = 128 * m := by rw [Bg, lY]
      clear hc5 hpc hp
      by_cases hin : 0 ≤ p ∧ p < ((q2 + 2 : Nat) : Int)
      · obtain ⟨j, rfl⟩ : ∃ j : Nat, p = (j : Int) := ⟨p.toNat, by omega⟩
        have hj : j < q2 + 2 := by omega
        obtain ⟨y1, y2, y3⟩ := celX_cut lE2 hj hccy
        have lC := celX_len lE2 hj
        have hpa := pasteC lY (show j < m by omega) lC
        have hln := setC_len lY (show j < m by omega) lC
        have hY1 : celX (setC Y j (celX E2 j)) 1 = celX E1 1 ∨ celX (setC Y j (celX E2 j)) 1 = celX E2 1 := by
          by_cases h1 : 1 = j
          · subst h1; exact .inr (setC_same lY (by omega) lC)
          · rw [setC_other lY (show j < m by omega) lC h1]; exact hY
        obtain ⟨C, hC⟩ : ∃ C, celX E2 j = C := ⟨_, rfl⟩
        rw [hC] at y2 lC hpa hln hY1
        have sC : csz (bvs C) = 128 := by rw [Bg, lC]
        rw [Nat.zero_add] at y1 y2
        clear y3 hC
        repeat' (first | ((with_reducible refine Ac ?_); first | (refine s_storeR (i := 0) Aa Ab hS (by rfl) (by rfl) (by rfl) (by rfl) (by infer_instance) sC (ones_bvs _) (by rfl) (by rw [sY]; omega) hpa (by rfl) ?_; clear hS; intro w hS; refine Ad ?_) | ((first | refine Ai Aa ?_ | refine Al Aa ?_ | refine Af Aa ?_ | refine Av Aa Ab hS ?_ (hv := by first | rfl | exact Bi | (rw [Array.getElem?_toList]; first | exact hat | exact y2)) | refine Bs Aa (by first | exact ((hS).far hb5).1) ?_ (hv := by first | rfl | exact Bi | (rw [Array.getElem?_toList]; first | exact hat | exact y2)) | refine Bs Aa (by first | exact ((hS).far hby).1) ?_ (hv := by first | rfl | exact Bi | (rw [Array.getElem?_toList]; first | exact hat | exact y2)) | refine Ba Aa Ab hS ?_ (hv := by first | exact Bo _ _ (by (try simp only [Bn, Bg, Bm, List.length_append, List.length_set, zs_len, List.length_take, List.length_drop, List.length_cons, List.length_nil]); first | done | rfl | omega) | (first | exact hat | exact y2) | rfl) | refine Da Aa (by first | exact ((hS).far hb5).1) ?_ (hv := by first | exact Bo _ _ (by (try simp only [Bn, Bg, Bm, List.length_append, List.length_set, zs_len, List.length_take, List.length_drop, List.length_cons, List.length_nil]); first | done | rfl | omega) | (first | exact hat | exact y2) | rfl) | refine Da Aa (by first | exact ((hS).far hby).1) ?_ (hv := by first | exact Bo _ _ (by (try simp only [Bn, Bg, Bm, List.length_append, List.length_set, zs_len, List.length_take, List.length_drop, List.length_cons, List.length_nil]); first | done | rfl | omega) | (first | exact hat | exact y2) | rfl) | refine Ag Aa ?_ | refine Ae Aa ?_ | refine Be Aa ?_ | refine g_cap Aa ?_ | refine Bl Aa ?_ | refine Bd Aa ?_ | refine Cj Aa ?_ | refine Ca Aa ?_ | refine Cz Aa ?_ | refine Cq Aa ?_ | refine Ak Aa ?_ | refine Aj Aa ?_ | refine Aw Aa (fun hc => ?_) (fun hc => ?_) | refine Cg Aa ?_ | refine Bz Aa ?_ | refine Ck Aa ?_ | refine Cd Aa ?_ | refine Az Aa ?_ | refine g_field1 Aa ?_ (hv' := by first | rfl | exact Bi | (rw [Array.getElem?_toList]; first | exact hat | exact y2)) | refine g_fieldR Aa ?_ | refine Bx Aa ?_ | refine Bu Aa ?_ | refine Ax Aa ?_ | refine Dj Aa ?_ | refine Bq Aa ?_ | refine Bk Aa ?_ | refine Bw Aa ?_ | refine Bh Aa ?_ | refine Bc Aa ?_ | refine Au Aa ?_ | refine g_nilCheck Aa ?_ | refine Cp Aa ?_ | refine Ar Aa ?_) <;> refine Ad ?_) | ((first | refine Ay Aa Ab hS ?_ | refine Cu Aa Ab hS ?_ | refine Ao Aa Ab hS ?_ | refine As Aa Ab hS ?_ | refine g_make Aa Ab hS ?_); clear hS; intro b w hS; refine Ad ?_) | ((first | refine Br Aa Ab hS ?_ | refine Ap Aa Ab hS ?_ | refine Aq Aa Ab hS ?_); clear hS; intro w hS; refine Ad ?_)) | ((fail_if_success (with_reducible refine Ac ?_)); first | go_step | go_step3 | rw [Exit.noGoto_normal] | rw [Exit.noGoto_ret] | rw [Exit.noGoto_exit]))
        go_roundw
        case rel => exact ⟨k + 1, _, by omega, by push_cast; rfl, hln, hY1, hS⟩
        case measure => first | (simp [intOf]; done) | (simp [intOf]; omega)
      · by_cases h0 : 0 ≤ p
        · have h1 : ¬ p < ((q2 + 2 : Nat) : Int) := fun h => hin ⟨h0, h⟩
          repeat' (first | ((with_reducible refine Ac ?_); first | ((first | refine Ai Aa ?_ | refine Al Aa ?_ | refine Af Aa ?_ | refine Av Aa Ab hS ?_ (hv := by first | rfl | exact Bi | (rw [Array.getElem?_toList]; exact hat)) | refine Bs Aa (by first | exact ((hS).far hb5).1) ?_ (hv := by first | rfl | exact Bi | (rw [Array.getElem?_toList]; exact hat)) | refine Ba Aa Ab hS ?_ (hv := by first | exact Bo _ _ (by (try simp only [Bn, Bg, Bm, List.length_append, List.length_set, zs_len, List.length_take, List.length_drop, List.length_cons, List.length_nil]); first | done | rfl | omega) | (exact hat) | rfl) | refine Da Aa (by first | exact ((hS).far hb5).1) ?_ (hv := by first | exact Bo _ _ (by (try simp only [Bn, Bg, Bm, List.length_append, List.length_set, zs_len, List.length_take, List.length_drop, List.length_cons, List.length_nil]); first | done | rfl | omega) | (exact hat) | rfl) | refine Ag Aa ?_ | refine Ae Aa ?_ | refine Be Aa ?_ | refine g_cap Aa ?_ | refine Bl Aa ?_ | refine Bd Aa ?_ | refine Cj Aa ?_ | refine Ca Aa ?_ | refine Cz Aa ?_ | refine Cq Aa ?_ | refine Ak Aa ?_ | refine Aj Aa ?_ | refine Aw Aa (fun hc => ?_) (fun hc => ?_) | refine Cg Aa ?_ | refine Bz Aa ?_ | refine Ck Aa ?_ | refine Cd Aa ?_ | refine Az Aa ?_ | refine g_field1 Aa ?_ (hv' := by first | rfl | exact Bi | (rw [Array.getElem?_toList]; exact hat)) | refine g_fieldR Aa ?_ | refine Bx Aa ?_ | refine Bu Aa ?_ | refine Ax Aa ?_ | refine Dj Aa ?_ | refine Bq Aa ?_ | refine Bk Aa ?_ | refine Bw Aa ?_ | refine Bh Aa ?_ | refine Bc Aa ?_ | refine Au Aa ?_ | refine g_nilCheck Aa ?_ | refine Cp Aa ?_ | refine Ar Aa ?_) <;> refine Ad ?_) | ((first | refine Ay Aa Ab hS ?_ | refine Cu Aa Ab hS ?_ | refine Ao Aa Ab hS ?_ | refine As Aa Ab hS ?_ | refine g_make Aa Ab hS ?_); clear hS; intro b w hS; refine Ad ?_) | ((first | refine Br Aa Ab hS ?_ | refine Ap Aa Ab hS ?_ | refine Aq Aa Ab hS ?_); clear hS; intro w hS; refine Ad ?_)) | ((fail_if_success (with_reducible refine Ac ?_)); first | go_step | go_step3 | rw [Exit.noGoto_normal] | rw [Exit.noGoto_ret] | rw [Exit.noGoto_exit]))
          go_roundw
          case rel => exact ⟨k + 1, Y, by omega, by push_cast; rfl, lY, hY, hS⟩
          case measure => first | (simp [intOf]; done) | (simp [intOf]; omega)
        · repeat' (first | ((with_reducible refine Ac ?_); first | ((first | refine Ai Aa ?_ | refine Al Aa ?_ | refine Af Aa ?_ | refine Av Aa Ab hS ?_ (hv := by first | rfl | exact Bi | (rw [Array.getElem?_toList]; exact hat)) | refine Bs Aa (by first | exact ((hS).far hb5).1) ?_ (hv := by first | rfl | exact Bi | (rw [Array.getElem?_toList]; exact hat)) | refine Ba Aa Ab hS ?_ (hv := by first | exact Bo _ _ (by (try simp only [Bn, Bg, Bm, List.length_append, List.length_set, zs_len, List.length_take, List.length_drop, List.length_cons, List.length_nil]); first | done | rfl | omega) | (exact hat) | rfl) | refine Da Aa (by first | exact ((hS).far hb5).1) ?_ (hv := by first | exact Bo _ _ (by (try simp only [Bn, Bg, Bm, List.length_append, List.length_set, zs_len, List.length_take, List.length_drop, List.length_cons, List.length_nil]); first | done | rfl | omega) | (exact hat) | rfl) | refine Ag Aa ?_ | refine Ae Aa ?_ | refine Be Aa ?_ | refine g_cap Aa ?_ | refine Bl Aa ?_ | refine Bd Aa ?_ | refine Cj Aa ?_ | refine Ca Aa ?_ | refine Cz Aa ?_ | refine Cq Aa ?_ | refine Ak Aa ?_ | refine Aj Aa ?_ | refine Aw Aa (fun hc => ?_) (fun hc => ?_) | refine Cg Aa ?_ | refine Bz Aa ?_ | refine Ck Aa ?_ | refine Cd Aa ?_ | refine Az Aa ?_ | refine g_field1 Aa ?_ (hv' := by first | rfl | exact Bi | (rw [Array.getElem?_toList]; exact hat)) | refine g_fieldR Aa ?_ | refine Bx Aa ?_ | refine Bu Aa ?_ | refine Ax Aa ?_ | refine Dj Aa ?_ | refine Bq Aa ?_ | refine Bk Aa ?_ | refine Bw Aa ?_ | refine Bh Aa ?_ | refine Bc Aa ?_ | refine Au Aa ?_ | refine g_nilCheck Aa ?_ | refine Cp Aa ?_ | refine Ar Aa ?_) <;> refine Ad ?_) | ((first | refine Ay Aa Ab hS ?_ | refine Cu Aa Ab hS ?_ | refine Ao Aa Ab hS ?_ | refine As Aa Ab hS ?_ | refine g_make Aa Ab hS ?_); clear hS; intro b w hS; refine Ad ?_) | ((first | refine Br Aa Ab hS ?_ | refine Ap Aa Ab hS ?_ | refine Aq Aa Ab hS ?_); clear hS; intro w hS; refine Ad ?_)) | ((fail_if_success (with_reducible refine Ac ?_)); first | go_step | go_step3 | rw [Exit.noGoto_normal] | rw [Exit.noGoto_ret] | rw [Exit.noGoto_exit]))
          go_roundw
          case rel => exact ⟨k + 1, Y, by omega, by push_cast; rfl, lY, hY, hS⟩
          case measure => first | (simp [intOf]; done) | (simp [intOf]; omega)
    · obtain rfl : k = np := by omega
      clear hpc
      repeat' (first | ((with_reducible refine Ac ?_); first | ((first | refine Ai Aa ?_ | refine Al Aa ?_ | refine Af Aa ?_ | refine Av Aa Ab hS ?_ | refine Bs Aa (by first | exact ((hS).far hs3).1) ?_ | refine Ba Aa Ab hS ?_ | refine Da Aa (by first | exact ((hS).far hs3).1) ?_ | refine Ag Aa ?_ | refine Ae Aa ?_ | refine Be Aa ?_ | refine g_cap Aa ?_ | refine Bl Aa ?_ | refine Bd Aa ?_ | refine Cj Aa ?_ | refine Ca Aa ?_ | refine Cz Aa ?_ | refine Cq Aa ?_ | refine Ak Aa ?_ | refine Aj Aa ?_ | refine Aw Aa (fun hc => ?_) (fun hc => ?_) | refine Cg Aa ?_ | refine Bz Aa ?_ | refine Ck Aa ?_ | refine Cd Aa ?_ | refine Az Aa ?_ | refine g_field1 Aa ?_ | refine g_fieldR Aa ?_ | refine Bx Aa ?_ | refine Bu Aa ?_ | refine Ax Aa ?_ | refine Dj Aa ?_ | refine Bq Aa ?_ | refine Bk Aa ?_ | refine Bw Aa ?_ | refine Bh Aa ?_ | refine Bc Aa ?_ | refine Au Aa ?_ | refine g_nilCheck Aa ?_ | refine Cp Aa ?_ | refine Ar Aa ?_) <;> refine Ad ?_) | ((first | refine Ay Aa Ab hS ?_ | refine Cu Aa Ab hS ?_ | refine Ao Aa Ab hS ?_ | refine As Aa Ab hS ?_ | refine g_make Aa Ab hS ?_); clear hS; intro b w hS; refine Ad ?_) | ((first | refine Br Aa Ab hS ?_ | refine Ap Aa Ab hS ?_ | refine Aq Aa Ab hS ?_); clear hS; intro w hS; refine Ad ?_)) | ((fail_if_success (with_reducible refine Ac ?_)); first | go_step | go_step3 | rw [Exit.noGoto_normal] | rw [Exit.noGoto_ret] | rw [Exit.noGoto_exit]))
      have hCA : CellsAt wr (.slice (some ⟨gl, 0, none⟩) m m) Y m := CellsAt.own (sp := []) lY (Nat.le_refl _) (by rw [List.append_nil]; exact hS.blk 0 rfl)
      have hde := decode_any key (by omega) Y m (by omega) _ _ wr (hkv.below hS.below) hCA
      refine s_call Aa (by rfl) (by rfl) (by rfl) (by rfl) (by rfl) (by infer_instance) hde ?_
      rintro e w4 ⟨ok, cnt, pv, l3, rfl, hR, hk3, ht3, hf3, hB⟩
      refine ⟨_, rfl, ?_⟩
      refine Ad ?_
      replace hS := Ab.call hS hB
      clear hde hCA
      have hPv : PutsAt w4 pv l3 := by
        cases ok with
        | false => rw [(hf3 rfl).2] at hR ⊢; exact hR.puts (by intro x hx; cases hx)
        | true => exact hR.puts (by rw [(ht3 rfl).2]; exact (dec_true lY (hk3.1 rfl)).1)
      obtain ⟨p6, c6, hp6⟩ := hR.slice
      subst hp6
      replace hs3 := (hS.far hs3).1
      replace hs4 := (hS.far hs4).1
      replace hbx := (hS.far hbx).1
      replace hby := (hS.far hby).1
      have hgl := hS.blk 0 rfl
      replace hkv := hkv.below hS.below
      replace hv1 := hv1.below hS.below
      replace hv2 := hv2.below hS.below
      replace hBW := hBW.trans (hS.below.mono hBW.size)
      clear hS
      have hS := St.start w4
      cases ok with
      | false =>
        repeat' (first | ((with_reducible refine Ac ?_); first | ((first | refine Ai Aa ?_ | refine Al Aa ?_ | refine Af Aa ?_ | refine Av Aa Ab hS ?_ | refine Ba Aa Ab hS ?_ | refine Ag Aa ?_ | refine Ae Aa ?_ | refine Be Aa ?_ | refine g_cap Aa ?_ | refine Bl Aa ?_ | refine Bd Aa ?_ | refine Cj Aa ?_ | refine Ca Aa ?_ | refine Cz Aa ?_ | refine Cq Aa ?_ | refine Ak Aa ?_ | refine Aj Aa ?_ | refine Aw Aa (fun hc => ?_) (fun hc => ?_) | refine Cg Aa ?_ | refine Bz Aa ?_ | refine Ck Aa ?_ | refine Cd Aa ?_ | refine Az Aa ?_ | refine g_field1 Aa ?_ | refine g_fieldR Aa ?_ | refine Bx Aa ?_ | refine Bu Aa ?_ | refine Ax Aa ?_ | refine Dj Aa ?_ | refine Bq Aa ?_ | refine Bk Aa ?_ | refine Bw Aa ?_ | refine Bh Aa ?_ | refine Bc Aa ?_ | refine Au Aa ?_ | refine g_nilCheck Aa ?_ | refine Cp Aa ?_ | refine Ar Aa ?_) <;> refine Ad ?_) | ((first | refine Ay Aa Ab hS ?_ | refine Cu Aa Ab hS ?_ | refine Ao Aa Ab hS ?_ | refine As Aa Ab hS ?_ | refine g_make Aa Ab hS ?_); clear hS; intro b w hS; refine Ad ?_) | ((first | refine Br Aa Ab hS ?_ | refine Ap Aa Ab hS ?_ | refine Aq Aa Ab hS ?_); clear hS; intro w hS; refine Ad ?_)) | ((fail_if_success (with_reducible refine Ac ?_)); first | go_step | go_step3 | rw [Exit.noGoto_normal] | rw [Exit.noGoto_ret] | rw [Exit.noGoto_exit]))
        go_ret
        exact ⟨rfl, hBW.trans (hS.below.mono hBW.size)⟩
      | true =>
      obtain ⟨hol, hl56, htag, hm2⟩ := dec_true lY (hk3.1 rfl)
      rw [← (ht3 rfl).2] at hol hl56 htag
      clear hk3 ht3 hf3 hR hB
      have hpa1 := fun w h => puts_at l1 (by omega) (.slice p1 q1 c1) w h
      have hpa2 := fun w h => puts_at l2 (by omega) (.slice p2 q2 c2) w h
      rw [hL1, hq1] at hpa1
      rw [hL2, hq2] at hpa2
      by_cases hc1 : cnt = n1
      focus
        repeat' (first | ((with_reducible refine Ac ?_); first | ((first | refine Ai Aa ?_ | refine Al Aa ?_ | refine Af Aa ?_ | refine Av Aa Ab hS ?_ | refine Bs Aa (by first | exact ((hS).far hs3).1) ?_ | refine Ba Aa Ab hS ?_ | refine Da Aa (by first | exact ((hS).far hs3).1) ?_ | refine Ag Aa ?_ | refine Ae Aa ?_ | refine Be Aa ?_ | refine g_cap Aa ?_ | refine Bl Aa ?_ | refine Bd Aa ?_ | refine Cj Aa ?_ | refine Ca Aa ?_ | refine Cz Aa ?_ | refine Cq Aa ?_ | refine Ak Aa ?_ | refine Aj Aa ?_ | refine Aw Aa (fun hc => ?_) (fun hc => ?_) | refine Cg Aa ?_ | refine Bz Aa ?_ | refine Ck Aa ?_ | refine Cd Aa ?_ | refine Az Aa ?_ | refine g_field1 Aa ?_ | refine g_fieldR Aa ?_ | refine Bx Aa ?_ | refine Bu Aa ?_ | refine Ax Aa ?_ | refine Dj Aa ?_ | refine Bq Aa ?_ | refine Bk Aa ?_ | refine Bw Aa ?_ | refine Bh Aa ?_ | refine Bc Aa ?_ | refine Au Aa ?_ | refine g_nilCheck Aa ?_ | refine Cp Aa ?_ | refine Ar Aa ?_) <;> refine Ad ?_) | ((first | refine Ay Aa Ab hS ?_ | refine Cu Aa Ab hS ?_ | refine Ao Aa Ab hS ?_ | refine As Aa Ab hS ?_ | refine g_make Aa Ab hS ?_); clear hS; intro b w hS; refine Ad ?_) | ((first | refine Br Aa Ab hS ?_ | refine Ap Aa Ab hS ?_ | refine Aq Aa Ab hS ?_); clear hS; intro w hS; refine Ad ?_)) | ((fail_if_success (with_reducible refine Ac ?_)); first | go_step | go_step3 | rw [Exit.noGoto_normal] | rw [Exit.noGoto_ret] | rw [Exit.noGoto_exit]))
        refine s_call Aa (by rfl) (by rfl) (by rfl) (by rfl) (by rfl) (by infer_instance) (hpa1 _ (hv1.below hS.below)) ?_
        rintro e w5 ⟨g5, c5, rfl, hP5, hB⟩
        refine ⟨_, rfl, ?_⟩
        refine Ad ?_
        replace hS := Ab.call hS hB
        have hsm := same_pts l3 L1 (by omega) _ _ _ (hPv.below hS.below) hP5
        clear hB hP5
        by_cases hs : l3 = L1
        focus
          rw [decide_eq_true hs] at hsm
          repeat' (first | ((with_reducible refine Ac ?_); first | ((first | refine Ai Aa ?_ | refine Al Aa ?_ | refine Af Aa ?_ | refine Av Aa Ab hS ?_ | refine Ba Aa Ab hS ?_ | refine Ag Aa ?_ | refine Ae Aa ?_ | refine Be Aa ?_ | refine g_cap Aa ?_ | refine Bl Aa ?_ | refine Bd Aa ?_ | refine Cj Aa ?_ | refine Ca Aa ?_ | refine Cz Aa ?_ | refine Cq Aa ?_ | refine Ak Aa ?_ | refine Aj Aa ?_ | refine Aw Aa (fun hc => ?_) (fun hc => ?_) | refine Cg Aa ?_ | refine Bz Aa ?_ | refine Ck Aa ?_ | refine Cd Aa ?_ | refine Az Aa ?_ | refine g_field1 Aa ?_ | refine g_fieldR Aa ?_ | refine Bx Aa ?_ | refine Bu Aa ?_ | refine Ax Aa ?_ | refine Dj Aa ?_ | refine Bq Aa ?_ | refine Bk Aa ?_ | refine Bw Aa ?_ | refine Bh Aa ?_ | refine Bc Aa ?_ | refine Au Aa ?_ | refine g_nilCheck Aa ?_ | refine Cp Aa ?_ | refine Ar Aa ?_) <;> refine Ad ?_) | ((first | refine Ay Aa Ab hS ?_ | refine Cu Aa Ab hS ?_ | refine Ao Aa Ab hS ?_ | refine As Aa Ab hS ?_ | refine g_make Aa Ab hS ?_); clear hS; intro b w hS; refine Ad ?_) | ((first | refine Br Aa Ab hS ?_ | refine Ap Aa Ab hS ?_ | refine Aq Aa Ab hS ?_); clear hS; intro w hS; refine Ad ?_) | (refine Ce Aa Ab hS (hsm) ?_; clear hS; intro w hS; refine Ad ?_)) | ((fail_if_success (with_reducible refine Ac ?_)); first | go_step | go_step3 | rw [Exit.noGoto_normal] | rw [Exit.noGoto_ret] | rw [Exit.noGoto_exit]))
          go_ret
          exact ⟨rfl, hBW.trans (hS.below.mono hBW.size)⟩
        rw [decide_eq_false hs] at hsm
        repeat' (first | ((with_reducible refine Ac ?_); first | ((first | refine Ai Aa ?_ | refine Al Aa ?_ | refine Af Aa ?_ | refine Av Aa Ab hS ?_ | refine Ba Aa Ab hS ?_ | refine Ag Aa ?_ | refine Ae Aa ?_ | refine Be Aa ?_ | refine g_cap Aa ?_ | refine Bl Aa ?_ | refine Bd Aa ?_ | refine Cj Aa ?_ | refine Ca Aa ?_ | refine Cz Aa ?_ | refine Cq Aa ?_ | refine Ak Aa ?_ | refine Aj Aa ?_ | refine Aw Aa (fun hc => ?_) (fun hc => ?_) | refine Cg Aa ?_ | refine Bz Aa ?_ | refine Ck Aa ?_ | refine Cd Aa ?_ | refine Az Aa ?_ | refine g_field1 Aa ?_ | refine g_fieldR Aa ?_ | refine Bx Aa ?_ | refine Bu Aa ?_ | refine Ax Aa ?_ | refine Dj Aa ?_ | refine Bq Aa ?_ | refine Bk Aa ?_ | refine Bw Aa ?_ | refine Bh Aa ?_ | refine Bc Aa ?_ | refine Au Aa ?_ | refine g_nilCheck Aa ?_ | refine Cp Aa ?_ | refine Ar Aa ?_) <;> refine Ad ?_) | ((first | refine Ay Aa Ab hS ?_ | refine Cu Aa Ab hS ?_ | refine Ao Aa Ab hS ?_ | refine As Aa Ab hS ?_ | refine g_make Aa Ab hS ?_); clear hS; intro b w hS; refine Ad ?_) | ((first | refine Br Aa Ab hS ?_ | refine Ap Aa Ab hS ?_ | refine Aq Aa Ab hS ?_); clear hS; intro w hS; refine Ad ?_) | (refine Ce Aa Ab hS (hsm) ?_; clear hS; intro w hS; refine Ad ?_)) | ((fail_if_success (with_reducible refine Ac ?_)); first | go_step | go_step3 | rw [Exit.noGoto_normal] | rw [Exit.noGoto_ret] | rw [Exit.noGoto_exit]))
      rotate_left
      repeat' (first | ((with_reducible refine Ac ?_); first | ((first | refine Ai Aa ?_ | refine Al Aa ?_ | refine Af Aa ?_ | refine Av Aa Ab hS ?_ | refine Bs Aa (by first | exact ((hS).far hs3).1) ?_ | refine Ba Aa Ab hS ?_ | refine Da Aa (by first | exact ((hS).far hs3).1) ?_ | refine Ag Aa ?_ | refine Ae Aa ?_ | refine Be Aa ?_ | refine g_cap Aa ?_ | refine Bl Aa ?_ | refine Bd Aa ?_ | refine Cj Aa ?_ | refine Ca Aa ?_ | refine Cz Aa ?_ | refine Cq Aa ?_ | refine Ak Aa ?_ | refine Aj Aa ?_ | refine Aw Aa (fun hc => ?_) (fun hc => ?_) | refine Cg Aa ?_ | refine Bz Aa ?_ | refine Ck Aa ?_ | refine Cd Aa ?_ | refine Az Aa ?_ | refine g_field1 Aa ?_ | refine g_fieldR Aa ?_ | refine Bx Aa ?_ | refine Bu Aa ?_ | refine Ax Aa ?_ | refine Dj Aa ?_ | refine Bq Aa ?_ | refine Bk Aa ?_ | refine Bw Aa ?_ | refine Bh Aa ?_ | refine Bc Aa ?_ | refine Au Aa ?_ | refine g_nilCheck Aa ?_ | refine Cp Aa ?_ | refine Ar Aa ?_) <;> refine Ad ?_) | ((first | refine Ay Aa Ab hS ?_ | refine Cu Aa Ab hS ?_ | refine Ao Aa Ab hS ?_ | refine As Aa Ab hS ?_ | refine g_make Aa Ab hS ?_); clear hS; intro b w hS; refine Ad ?_) | ((first | refine Br Aa Ab hS ?_ | refine Ap Aa Ab hS ?_ | refine Aq Aa Ab hS ?_); clear hS; intro w hS; refine Ad ?_)) | ((fail_if_success (with_reducible refine Ac ?_)); first | go_step | go_step3 | rw [Exit.noGoto_normal] | rw [Exit.noGoto_ret] | rw [Exit.noGoto_exit]))
      all_goals
        by_cases hc2 : cnt = n2
        focus
          repeat' (first | ((with_reducible refine Ac ?_); first | ((first | refine Ai Aa ?_ | refine Al Aa ?_ | refine Af Aa ?_ | refine Av Aa Ab hS ?_ | refine Bs Aa (by first | exact ((hS).far hs4).1) ?_ | refine Ba Aa Ab hS ?_ | refine Da Aa (by first | exact ((hS).far hs4).1) ?_ | refine Ag Aa ?_ | refine Ae Aa ?_ | refine Be Aa ?_ | refine g_cap Aa ?_ | refine Bl Aa ?_ | refine Bd Aa ?_ | refine Cj Aa ?_ | refine Ca Aa ?_ | refine Cz Aa ?_ | refine Cq Aa ?_ | refine Ak Aa ?_ | refine Aj Aa ?_ | refine Aw Aa (fun hc => ?_) (fun hc => ?_) | refine Cg Aa ?_ | refine Bz Aa ?_ | refine Ck Aa ?_ | refine Cd Aa ?_ | refine Az Aa ?_ | refine g_field1 Aa ?_ | refine g_fieldR Aa ?_ | refine Bx Aa ?_ | refine Bu Aa ?_ | refine Ax Aa ?_ | refine Dj Aa ?_ | refine Bq Aa ?_ | refine Bk Aa ?_ | refine Bw Aa ?_ | refine Bh Aa ?_ | refine Bc Aa ?_ | refine Au Aa ?_ | refine g_nilCheck Aa ?_ | refine Cp Aa ?_ | refine Ar Aa ?_) <;> refine Ad ?_) | ((first | refine Ay Aa Ab hS ?_ | refine Cu Aa Ab hS ?_ | refine Ao Aa Ab hS ?_ | refine As Aa Ab hS ?_ | refine g_make Aa Ab hS ?_); clear hS; intro b w hS; refine Ad ?_) | ((first | refine Br Aa Ab hS ?_ | refine Ap Aa Ab hS ?_ | refine Aq Aa Ab hS ?_); clear hS; intro w hS; refine Ad ?_)) | ((fail_if_success (with_reducible refine Ac ?_)); first | go_step | go_step3 | rw [Exit.noGoto_normal] | rw [Exit.noGoto_ret] | rw [Exit.noGoto_exit]))
          refine s_call Aa (by rfl) (by rfl) (by rfl) (by rfl) (by rfl) (by infer_instance) (hpa2 _ (hv2.below hS.below)) ?_
          rintro e w5 ⟨g5, c5, rfl, hP5, hB⟩
          refine ⟨_, rfl, ?_⟩
          refine Ad ?_
          replace hS := Ab.call hS hB
          have hsm := same_pts l3 L2 (by omega) _ _ _ (hPv.below hS.below) hP5
          clear hB hP5
          by_cases hs : l3 = L2
          focus
            rw [decide_eq_true hs] at hsm
            repeat' (first | ((with_reducible refine Ac ?_); first | ((first | refine Ai Aa ?_ | refine Al Aa ?_ | refine Af Aa ?_ | refine Av Aa Ab hS ?_ | refine Ba Aa Ab hS ?_ | refine Ag Aa ?_ | refine Ae Aa ?_ | refine Be Aa ?_ | refine g_cap Aa ?_ | refine Bl Aa ?_ | refine Bd Aa ?_ | refine Cj Aa ?_ | refine Ca Aa ?_ | refine Cz Aa ?_ | refine Cq Aa ?_ | refine Ak Aa ?_ | refine Aj Aa ?_ | refine Aw Aa (fun hc => ?_) (fun hc => ?_) | refine Cg Aa ?_ | refine Bz Aa ?_ | refine Ck Aa ?_ | refine Cd Aa ?_ | refine Az Aa ?_ | refine g_field1 Aa ?_ | refine g_fieldR Aa ?_ | refine Bx Aa ?_ | refine Bu Aa ?_ | refine Ax Aa ?_ | refine Dj Aa ?_ | refine Bq Aa ?_ | refine Bk Aa ?_ | refine Bw Aa ?_ | refine Bh Aa ?_ | refine Bc Aa ?_ | refine Au Aa ?_ | refine g_nilCheck Aa ?_ | refine Cp Aa ?_ | refine Ar Aa ?_) <;> refine Ad ?_) | ((first | refine Ay Aa Ab hS ?_ | refine Cu Aa Ab hS ?_ | refine Ao Aa Ab hS ?_ | refine As Aa Ab hS ?_ | refine g_make Aa Ab hS ?_); clear hS; intro b w hS; refine Ad ?_) | ((first | refine Br Aa Ab hS ?_ | refine Ap Aa Ab hS ?_ | refine Aq Aa Ab hS ?_); clear hS; intro w hS; refine Ad ?_) | (refine Ce Aa Ab hS (hsm) ?_; clear hS; intro w hS; refine Ad ?_)) | ((fail_if_success (with_reducible refine Ac ?_)); first | go_step | go_step3 | rw [Exit.noGoto_normal] | rw [Exit.noGoto_ret] | rw [Exit.noGoto_exit]))
            go_ret
            exact ⟨rfl, hBW.trans (hS.below.mono hBW.size)⟩
          rw [decide_eq_false hs] at hsm
          repeat' (first | ((with_reducible refine Ac ?_); first | ((first | refine Ai Aa ?_ | refine Al Aa ?_ | refine Af Aa ?_ | refine Av Aa Ab hS ?_ | refine Ba Aa Ab hS ?_ | refine Ag Aa ?_ | refine Ae Aa ?_ | refine Be Aa ?_ | refine g_cap Aa ?_ | refine Bl Aa ?_ | refine Bd Aa ?_ | refine Cj Aa ?_ | refine Ca Aa ?_ | refine Cz Aa ?_ | refine Cq Aa ?_ | refine Ak Aa ?_ | refine Aj Aa ?_ | refine Aw Aa (fun hc => ?_) (fun hc => ?_) | refine Cg Aa ?_ | refine Bz Aa ?_ | refine Ck Aa ?_ | refine Cd Aa ?_ | refine Az Aa ?_ | refine g_field1 Aa ?_ | refine g_fieldR Aa ?_ | refine Bx Aa ?_ | refine Bu Aa ?_ | refine Ax Aa ?_ | refine Dj Aa ?_ | refine Bq Aa ?_ | refine Bk Aa ?_ | refine Bw Aa ?_ | refine Bh Aa ?_ | refine Bc Aa ?_ | refine Au Aa ?_ | refine g_nilCheck Aa ?_ | refine Cp Aa ?_ | refine Ar Aa ?_) <;> refine Ad ?_) | ((first | refine Ay Aa Ab hS ?_ | refine Cu Aa Ab hS ?_ | refine Ao Aa Ab hS ?_ | refine As Aa Ab hS ?_ | refine g_make Aa Ab hS ?_); clear hS; intro b w hS; refine Ad ?_) | ((first | refine Br Aa Ab hS ?_ | refine Ap Aa Ab hS ?_ | refine Aq Aa Ab hS ?_); clear hS; intro w hS; refine Ad ?_) | (refine Ce Aa Ab hS (hsm) ?_; clear hS; intro w hS; refine Ad ?_)) | ((fail_if_success (with_reducible refine Ac ?_)); first | go_step | go_step3 | rw [Exit.noGoto_normal] | rw [Exit.noGoto_ret] | rw [Exit.noGoto_exit]))
        rotate_left
        repeat' (first | ((with_reducible refine Ac ?_); first | ((first | refine Ai Aa ?_ | refine Al Aa ?_ | refine Af Aa ?_ | refine Av Aa Ab hS ?_ | refine Bs Aa (by first | exact ((hS).far hs4).1) ?_ | refine Ba Aa Ab hS ?_ | refine Da Aa (by first | exact ((hS).far hs4).1) ?_ | refine Ag Aa ?_ | refine Ae Aa ?_ | refine Be Aa ?_ | refine g_cap Aa ?_ | refine Bl Aa ?_ | refine Bd Aa ?_ | refine Cj Aa ?_ | refine Ca Aa ?_ | refine Cz Aa ?_ | refine Cq Aa ?_ | refine Ak Aa ?_ | refine Aj Aa ?_ | refine Aw Aa (fun hc => ?_) (fun hc => ?_) | refine Cg Aa ?_ | refine Bz Aa ?_ | refine Ck Aa ?_ | refine Cd Aa ?_ | refine Az Aa ?_ | refine g_field1 Aa ?_ | refine g_fieldR Aa ?_ | refine Bx Aa ?_ | refine Bu Aa ?_ | refine Ax Aa ?_ | refine Dj Aa ?_ | refine Bq Aa ?_ | refine Bk Aa ?_ | refine Bw Aa ?_ | refine Bh Aa ?_ | refine Bc Aa ?_ | refine Au Aa ?_ | refine g_nilCheck Aa ?_ | refine Cp Aa ?_ | refine Ar Aa ?_) <;> refine Ad ?_) | ((first | refine Ay Aa Ab hS ?_ | refine Cu Aa Ab hS ?_ | refine Ao Aa Ab hS ?_ | refine As Aa Ab hS ?_ | refine g_make Aa Ab hS ?_); clear hS; intro b w hS; refine Ad ?_) | ((first | refine Br Aa Ab hS ?_ | refine Ap Aa Ab hS ?_ | refine Aq Aa Ab hS ?_); clear hS; intro w hS; refine Ad ?_)) | ((fail_if_success (with_reducible refine Ac ?_)); first | go_step | go_step3 | rw [Exit.noGoto_normal] | rw [Exit.noGoto_ret] | rw [Exit.noGoto_exit]))
      all_goals
        obtain ⟨y1, y2, y3⟩ := celX_cut (i := 0) lY (by omega) (own_cells (sp := []))
        have hb0 : ∀ w', blk w' gl = some (.cells (bvs Y) 30 (0, 0)) → BytesAt w' (.slice (some ⟨gl, 0 + 0 * 128, none⟩) 128 128) (celX Y 0) := fun w' h => celX_bytes (i := 0) (c := 128) (o := 0) lY (by omega) h (fun j x hj => by
          rw [Nat.zero_add]
          show ((Y.map bv).toArray)[j]? = _
          rw [List.getElem?_toArray, List.getElem?_map, hj]; rfl) rfl (Nat.le_refl _)
        refine s_appX Aa Ab hS (by rfl) (by rfl) (by rfl) (by rfl) (by infer_instance) (by exact at_ 0 rfl) (l := []) (spare := []) (by rfl) rfl (Nat.le_refl _) (by rfl) (hb0 _ (hS.far hgl).1) (by rw [celX_len lY (by omega)]; decide) (nm := 128) (by rw [celX_len lY (by omega)]; rfl) ?_
        clear hS
        intro bt ct spt w5 j1 j2 j3 hS
        rw [List.nil_append] at hS
        refine Ad ?_
        obtain ⟨_, pq, cq, e1, hcq2, _, hpcell⟩ := hPv
        cases e1
        have lG := tagL_len key (celX Y 0 ++ bodyL l3)
        have lY0 := celX_len lY (show 0 < m by omega)
        have lY1 := celX_len lY (show 1 < m by omega)
        obtain ⟨q3, hq3⟩ : ∃ q, l3.length = q := ⟨_, rfl⟩
        rw [hq3] at hcq2 hl56 ⊢
        have s2 : csz (hdV 0 (zs 128)) = 129 := by rw [hdV_size, zs_len]
        obtain ⟨Y0, hY0⟩ : ∃ x, celX Y 0 = x := ⟨_, rfl⟩
        rw [hY0] at hS lY0 htag lG
        have hbE1 : ∀ w', blk w' gx = some (.cells csx tyx frx) → BytesAt w' (.slice (some ⟨gx, 0 + 1 * 128, none⟩) 32 128) ((celX E1 1).take 32) := fun w' h => celX_bytes32 (i := 1) (c := 128) lE1 (by omega) h hccx rfl (by omega)
        have hbE2 : ∀ w', blk w' gy = some (.cells csy tyy fry) → BytesAt w' (.slice (some ⟨gy, 0 + 1 * 128, none⟩) 32 128) ((celX E2 1).take 32) := fun w' h => celX_bytes32 (i := 1) (c := 128) lE2 (by omega) h hccy rfl (by omega)
        have hGA : tagL key (Y0 ++ bodyL l3) = (celX E1 1).take 32 ∨ tagL key (Y0 ++ bodyL l3) = (celX E2 1).take 32 := by
          rw [htag]
          exact hY.imp (fun h => by rw [h]) (fun h => by rw [h])
        obtain ⟨A1, hA1⟩ : ∃ x, (celX E1 1).take 32 = x := ⟨_, rfl⟩
        obtain ⟨A2, hA2⟩ : ∃ x, (celX E2 1).take 32 = x := ⟨_, rfl⟩
        rw [hA1] at hbE1 hGA
        rw [hA2] at hbE2 hGA
        clear htag hY hA1 hA2
        clear hb0 y1 y2 y3 hgl hpa1 hpa2 hv1 hv2
        repeat' (first | ((with_reducible refine Ac ?_); first | ((first | refine Ai Aa ?_ | refine Al Aa ?_ | refine Af Aa ?_ | refine Av Aa Ab hS ?_ | refine Ba Aa Ab hS ?_ | refine Ag Aa ?_ | refine Ae Aa ?_ | refine Be Aa ?_ | refine g_cap Aa ?_ | refine Bl Aa ?_ | refine Bd Aa ?_ | refine Cj Aa ?_ | refine Ca Aa ?_ | refine Cz Aa ?_ | refine Cq Aa ?_ | refine Ak Aa ?_ | refine Aj Aa ?_ | refine Aw Aa (fun hc => ?_) (fun hc => ?_) | refine Cg Aa ?_ | refine Bz Aa ?_ | refine Ck Aa ?_ | refine Cd Aa ?_ | refine Az Aa ?_ | refine g_field1 Aa ?_ | refine g_fieldR Aa ?_ | refine Bx Aa ?_ | refine Bu Aa ?_ | refine Ax Aa ?_ | refine Dj Aa ?_ | refine Bq Aa ?_ | refine Bk Aa ?_ | refine Bw Aa ?_ | refine Bh Aa ?_ | refine Bc Aa ?_ | refine Au Aa ?_ | refine g_nilCheck Aa ?_ | refine Cp Aa ?_ | refine Ar Aa ?_) <;> refine Ad ?_) | ((first | refine Ay Aa Ab hS ?_ | refine Cu Aa Ab hS ?_ | refine Ao Aa Ab hS ?_ | refine As Aa Ab hS ?_ | refine g_make Aa Ab hS ?_); clear hS; intro b w hS; refine Ad ?_) | ((first | refine Br Aa Ab hS ?_ | refine Ap Aa Ab hS ?_ | refine Aq Aa Ab hS ?_); clear hS; intro w hS; refine Ad ?_)) | ((fail_if_success (with_reducible refine Ac ?_)); first | go_step | go_step3 | rw [Exit.noGoto_normal] | rw [Exit.noGoto_ret] | rw [Exit.noGoto_exit]))
        go_loopw [19, 21, 153] (fun u19 u21 u153 wr => ∃ (k g c : Nat) (sp : List Value), k ≤ q3 ∧ u153 = .int .i64 (k : Int) ∧ u19 = .slice (some ⟨g, 0, none⟩) (128 + 128 * k) c ∧ 128 + 128 * k ≤ c ∧ c ≤ maxLen ∧ sp.length = c - (128 + 128 * k) ∧ St w4 wr [(g, ((Y0 ++ bodyL (l3.take k)).map bv ++ sp).toArray, 5)]) (fun _ _ u153 _ => q3 - (intOf u153).toNat)
        case atStart => exact ⟨0, bt, ct, spt, by omega, rfl, rfl, j1, j2, j3, by rw [List.take_zero]; show St _ _ [(bt, ((Y0 ++ []).map bv ++ spt).toArray, _)]; rw [List.append_nil]; exact hS⟩
        case round =>
          clear hS j1 j2 j3
          obtain ⟨k, g, c4, sp, hk1, rfl, rfl, j1, j2, j3, hS⟩ := hrel
          have j2' := j2
          unfold maxLen at j2'
          have hlk : (Y0 ++ bodyL (l3.take k)).length = 128 + 128 * k := by
            rw [List.length_append, lY0, bodyL_len (fun x hx' => hol x (List.mem_of_mem_take hx')), List.length_take]; omega
          by_cases hlt : k < q3
          · obtain ⟨⟨a, C⟩, hx⟩ : ∃ x, l3[k]? = some x := ⟨_, List.getElem?_eq_getElem (by omega)⟩
            obtain ⟨b0, o0, cs, ty, fr, rfl, hb, hcc⟩ := hpcell (by intro e; rw [e] at hq3; simp at hq3; omega)
            obtain ⟨lC, d1, d2, d3, d4⟩ := put_cells hol hcc hx
            have s1 : csz (hdV a C) = 129 := by rw [hdV_size, lC]
            have hbd := bodyL_next hx
            obtain ⟨Z, hZ⟩ : ∃ Z, Y0 ++ bodyL (l3.take k) = Z := ⟨_, rfl⟩
            rw [hZ] at hS hlk
            have hZ2 : Z ++ C = Y0 ++ bodyL (l3.take (k + 1)) := by rw [hbd, ← hZ, List.append_assoc]
            have hbq : ∀ w' b', blk w' b' = some (.cells (hdV a C) 70 (0, 0)) → BytesAt w' (.slice (some ⟨b', 1, none⟩) 128 128) C := fun w' b' h => by
              have := hd_bytes h 0 128 128 (by omega) (Nat.le_refl _)
              rwa [List.drop_zero, List.take_of_length_le (by omega)] at this
            clear hZ
            repeat' (first | ((with_reducible refine Ac ?_); first | (refine Ap Aa Ab hS ?_ (hv := hdV_ones _ _); clear hS; intro w hS; refine Ad ?_) | ((first | refine Ai Aa ?_ | refine Al Aa ?_ | refine Af Aa ?_ | refine Av Aa Ab hS ?_ (hv := by first | rfl | exact Bi | (rw [Array.getElem?_toList]; first | exact d2)) | refine Bs Aa (by first | exact ((hS).far hb).1) ?_ (hv := by first | rfl | exact Bi | (rw [Array.getElem?_toList]; first | exact d2)) | refine Ba Aa Ab hS ?_ (hv := by first | exact Bo _ _ (by (try simp only [Bn, Bg, Bm, List.length_append, List.length_set, zs_len, List.length_take, List.length_drop, List.length_cons, List.length_nil]); first | done | rfl | omega) | (first | exact d2) | rfl) | refine Da Aa (by first | exact ((hS).far hb).1) ?_ (hv := by first | exact Bo _ _ (by (try simp only [Bn, Bg, Bm, List.length_append, List.length_set, zs_len, List.length_take, List.length_drop, List.length_cons, List.length_nil]); first | done | rfl | omega) | (first | exact d2) | rfl) | refine Ag Aa ?_ | refine Ae Aa ?_ | refine Be Aa ?_ | refine g_cap Aa ?_ | refine Bl Aa ?_ | refine Bd Aa ?_ | refine Cj Aa ?_ | refine Ca Aa ?_ | refine Cz Aa ?_ | refine Cq Aa ?_ | refine Ak Aa ?_ | refine Aj Aa ?_ | refine Aw Aa (fun hc => ?_) (fun hc => ?_) | refine Cg Aa ?_ | refine Bz Aa ?_ | refine Ck Aa ?_ | refine Cd Aa ?_ | refine Az Aa ?_ | refine g_field1 Aa ?_ (hv' := by first | rfl | exact Bi | (rw [Array.getElem?_toList]; first | exact d2)) | refine g_fieldR Aa ?_ | refine Bx Aa ?_ | refine Bu Aa ?_ | refine Ax Aa ?_ | refine Dj Aa ?_ | refine Bq Aa ?_ | refine Bk Aa ?_ | refine Bw Aa ?_ | refine Bh Aa ?_ | refine Bc Aa ?_ | refine Au Aa ?_ | refine g_nilCheck Aa ?_ | refine Cp Aa ?_ | refine Ar Aa ?_) <;> refine Ad ?_) | ((first | refine Ay Aa Ab hS ?_ | refine Cu Aa Ab hS ?_ | refine Ao Aa Ab hS ?_ | refine As Aa Ab hS ?_ | refine g_make Aa Ab hS ?_); clear hS; intro b w hS; refine Ad ?_) | ((first | refine Br Aa Ab hS ?_ | refine Ap Aa Ab hS ?_ | refine Aq Aa Ab hS ?_); clear hS; intro w hS; refine Ad ?_)) | ((fail_if_success (with_reducible refine Ac ?_)); first | go_step | go_step3 | rw [Exit.noGoto_normal] | rw [Exit.noGoto_ret] | rw [Exit.noGoto_exit]))
            refine s_appX Aa Ab hS (by rfl) (by rfl) (by rfl) (by rfl) (by infer_instance) (by exact at_ 1 rfl) (l := Z) (spare := sp) (by rfl) hlk j1 j3 (hbq _ _ (hS.blk 0 rfl)) (by unfold maxLen; omega) (nm := 128 + 128 * (k + 1)) (by omega) ?_
            clear hS
            intro bt ct spt w6 z1 z2 z3 hS
            rw [hZ2] at hS
            replace hS := hS.take 1
            refine Ad ?_
            repeat' (first | ((with_reducible refine Ac ?_); first | ((first | refine Ai Aa ?_ | refine Al Aa ?_ | refine Af Aa ?_ | refine Av Aa Ab hS ?_ | refine Ba Aa Ab hS ?_ | refine Ag Aa ?_ | refine Ae Aa ?_ | refine Be Aa ?_ | refine g_cap Aa ?_ | refine Bl Aa ?_ | refine Bd Aa ?_ | refine Cj Aa ?_ | refine Ca Aa ?_ | refine Cz Aa ?_ | refine Cq Aa ?_ | refine Ak Aa ?_ | refine Aj Aa ?_ | refine Aw Aa (fun hc => ?_) (fun hc => ?_) | refine Cg Aa ?_ | refine Bz Aa ?_ | refine Ck Aa ?_ | refine Cd Aa ?_ | refine Az Aa ?_ | refine g_field1 Aa ?_ | refine g_fieldR Aa ?_ | refine Bx Aa ?_ | refine Bu Aa ?_ | refine Ax Aa ?_ | refine Dj Aa ?_ | refine Bq Aa ?_ | refine Bk Aa ?_ | refine Bw Aa ?_ | refine Bh Aa ?_ | refine Bc Aa ?_ | refine Au Aa ?_ | refine g_nilCheck Aa ?_ | refine Cp Aa ?_ | refine Ar Aa ?_) <;> refine Ad ?_) | ((first | refine Ay Aa Ab hS ?_ | refine Cu Aa Ab hS ?_ | refine Ao Aa Ab hS ?_ | refine As Aa Ab hS ?_ | refine g_make Aa Ab hS ?_); clear hS; intro b w hS; refine Ad ?_) | ((first | refine Br Aa Ab hS ?_ | refine Ap Aa Ab hS ?_ | refine Aq Aa Ab hS ?_); clear hS; intro w hS; refine Ad ?_)) | ((fail_if_success (with_reducible refine Ac ?_)); first | go_step | go_step3 | rw [Exit.noGoto_normal] | rw [Exit.noGoto_ret] | rw [Exit.noGoto_exit]))
            go_roundw
            case rel => exact ⟨k + 1, bt, ct, spt, by omega, by push_cast; rfl, rfl, z1, z2, z3, hS⟩
            case measure => first | (simp [intOf]; done) | (simp [intOf]; omega)
          · obtain rfl : k = q3 := by omega
            rw [List.take_of_length_le (by omega)] at hS hlk
            have hbT : BytesAt wr (.slice (some ⟨g, 0, none⟩) (128 + 128 * k) c4) (Y0 ++ bodyL l3) := bytesAt_blk (hS.blk 0 rfl) hlk j1 (fun j x hj => by rw [Nat.zero_add, List.getElem?_toArray, List.getElem?_append_left (by rw [List.length_map]; exact (List.getElem?_eq_some_iff.1 hj).1), List.getElem?_map, hj]; rfl)
            have htg := refTag_any key (Y0 ++ bodyL l3) (by omega) (by omega) _ _ wr (hkv.below hS.below) hbT
            obtain ⟨G, hG⟩ : ∃ G, tagL key (Y0 ++ bodyL l3) = G := ⟨_, rfl⟩
            rw [hG] at htg lG hGA
            have sG : csz (bvs G) = 32 := by rw [Bg, lG]
            clear hG hbT
            repeat' (first | ((with_reducible refine Ac ?_); first | ((first | refine Ai Aa ?_ | refine Al Aa ?_ | refine Af Aa ?_ | refine Av Aa Ab hS ?_ | refine Bs Aa (by first | exact ((hS).far hs3).1) ?_ | refine Ba Aa Ab hS ?_ | refine Da Aa (by first | exact ((hS).far hs3).1) ?_ | refine Ag Aa ?_ | refine Ae Aa ?_ | refine Be Aa ?_ | refine g_cap Aa ?_ | refine Bl Aa ?_ | refine Bd Aa ?_ | refine Cj Aa ?_ | refine Ca Aa ?_ | refine Cz Aa ?_ | refine Cq Aa ?_ | refine Ak Aa ?_ | refine Aj Aa ?_ | refine Aw Aa (fun hc => ?_) (fun hc => ?_) | refine Cg Aa ?_ | refine Bz Aa ?_ | refine Ck Aa ?_ | refine Cd Aa ?_ | refine Az Aa ?_ | refine g_field1 Aa ?_ | refine g_fieldR Aa ?_ | refine Bx Aa ?_ | refine Bu Aa ?_ | refine Ax Aa ?_ | refine Dj Aa ?_ | refine Bq Aa ?_ | refine Bk Aa ?_ | refine Bw Aa ?_ | refine Bh Aa ?_ | refine Bc Aa ?_ | refine Au Aa ?_ | refine g_nilCheck Aa ?_ | refine Cp Aa ?_ | refine Ar Aa ?_) <;> refine Ad ?_) | ((first | refine Ay Aa Ab hS ?_ | refine Cu Aa Ab hS ?_ | refine Ao Aa Ab hS ?_ | refine As Aa Ab hS ?_ | refine g_make Aa Ab hS ?_); clear hS; intro b w hS; refine Ad ?_) | ((first | refine Br Aa Ab hS ?_ | refine Ap Aa Ab hS ?_ | refine Aq Aa Ab hS ?_); clear hS; intro w hS; refine Ad ?_)) | ((fail_if_success (with_reducible refine Ac ?_)); first | go_step | go_step3 | rw [Exit.noGoto_normal] | rw [Exit.noGoto_ret] | rw [Exit.noGoto_exit]))
            repeat' (first | ((with_reducible refine Ac ?_); first | ((first | refine Ai Aa ?_ | refine Al Aa ?_ | refine Af Aa ?_ | refine Av Aa Ab hS ?_ | refine Bs Aa (by first | exact ((hS).far hs3).1) ?_ | refine Ba Aa Ab hS ?_ | refine Da Aa (by first | exact ((hS).far hs3).1) ?_ | refine Ag Aa ?_ | refine Ae Aa ?_ | refine Be Aa ?_ | refine g_cap Aa ?_ | refine Bl Aa ?_ | refine Bd Aa ?_ | refine Cj Aa ?_ | refine Ca Aa ?_ | refine Cz Aa ?_ | refine Cq Aa ?_ | refine Ak Aa ?_ | refine Aj Aa ?_ | refine Aw Aa (fun hc => ?_) (fun hc => ?_) | refine Cg Aa ?_ | refine Bz Aa ?_ | refine Ck Aa ?_ | refine Cd Aa ?_ | refine Az Aa ?_ | refine g_field1 Aa ?_ | refine g_fieldR Aa ?_ | refine Bx Aa ?_ | refine Bu Aa ?_ | refine Ax Aa ?_ | refine Dj Aa ?_ | refine Bq Aa ?_ | refine Bk Aa ?_ | refine Bw Aa ?_ | refine Bh Aa ?_ | refine Bc Aa ?_ | refine Au Aa ?_ | refine g_nilCheck Aa ?_ | refine Cp Aa ?_ | refine Ar Aa ?_) <;> refine Ad ?_) | ((first | refine Ay Aa Ab hS ?_ | refine Cu Aa Ab hS ?_ | refine Ao Aa Ab hS ?_ | refine As Aa Ab hS ?_ | refine g_make Aa Ab hS ?_); clear hS; intro b w hS; refine Ad ?_) | ((first | refine Br Aa Ab hS ?_ | refine Ap Aa Ab hS ?_ | refine Aq Aa Ab hS ?_); clear hS; intro w hS; refine Ad ?_) | (refine Ce Aa Ab hS (htg) ?_; clear hS; intro w hS; refine Ad ?_)) | ((fail_if_success (with_reducible refine Ac ?_)); first | go_step | go_step3 | rw [Exit.noGoto_normal] | rw [Exit.noGoto_ret] | rw [Exit.noGoto_exit]))
            by_cases h1 : G = A1
            · skip
              refine Bv 17 (by kernel_rfl) (by kernel_rfl) ?_
              dsimp only [List.take, List.drop]
              iterate 17 (first | (refine Dc (fun _ => rfl) ?_; simp only [Act.put, List.setIfInBounds_toArray, List.set_cons_zero, List.set_cons_succ]) | (refine Cw (by rfl) (fun _ => rfl) _ (fun w => r_alloc (a := ⟨#[], []⟩) rfl (by infer_instance)) ?_; simp only [Act.put, List.setIfInBounds_toArray, List.set_cons_zero, List.set_cons_succ]) | (refine Cr rfl (fun _ => rfl) (fun K hK => ?_); apply Exists.intro; apply Exists.intro; apply Exists.intro; apply Exists.intro; refine ⟨fun pB w' hw' hF => ?_, hK _ _ ?_⟩; (focus (exact Cf (by rfl) (by rfl) (by infer_instance) (by rfl) (by repeat (first | exact (fun _ h => absurd h List.not_mem_nil) | refine List.forall_mem_cons.2 ⟨by first | rfl | (simp only [Value.cells]; first | rfl | omega), ?_⟩)) (by (try conv => lhs; simp only [List.flatMap_cons, List.flatMap_nil, Value.cells, List.append_nil, List.cons_append, List.nil_append]); first | done | rfl) (by decide) (by decide))); clear hK K; simp only [Act.put, List.setIfInBounds_toArray, List.set_cons_zero, List.set_cons_succ]) | (refine Dd (fun _ => rfl) (fun K hK => ?_); apply Exists.intro; refine ⟨fun pB w' hw' hF => ?_, hK _ _ ?_⟩; (focus (have hZ := (Ab).call hS hw'; first | exact (Cn (r_txt (by rfl) (by rfl) Try.underlying22 Try.underlying5 Try.underlying9 (by first | exact bytesAt_whole (Ab.blk 0 hZ rfl) lG | exact hbE1 _ (hZ.far hbx).1 | exact hbE2 _ (hZ.far hby).1))) | exact (Cn (r_eqTx (by rfl) (by rfl) (by rfl) (decide_eq_true h1))) | exact q_move | exact Dh | exact q_load1 Ab hZ | exact q_load1F (by first | exact ((hZ).far hbx).1) | exact q_load1F (by first | exact ((hZ).far hby).1) | exact q_loadR Ab hZ | exact q_loadRF (by first | exact ((hZ).far hbx).1) | exact q_loadRF (by first | exact ((hZ).far hby).1) | exact Ci | exact Cb | exact q_len | exact q_cap | exact Cy | exact q_add | exact q_sub | exact q_mul | exact q_quo | exact q_rem | exact q_cmp_t | exact q_cmp_f | exact De | exact Cx | exact Df | exact Cv | exact Ch | exact Di | exact Dg | exact Cm | exact Co | exact Bt | exact Cl | exact q_conv | exact q_pick | exact q_not | exact Db | exact Ct | exact Cc | exact Dk | exact Dl | exact Cs)); clear hK K; simp only [Act.put, List.setIfInBounds_toArray, List.set_cons_zero, List.set_cons_succ]))
              refine wpM_nil ?_
              intro pB w hcq hfq hnq
              replace hS := (Ab).news hS hcq _ (by first | decide | simp) hfq hnq
              first | simp only [List.map_nil, List.nil_append] at hS | simp only [List.map_cons, List.map_nil, List.cons_append, List.nil_append] at hS
              clear hcq hfq hnq
              try dsimp only
              repeat' (first | ((with_reducible refine Ac ?_); first | ((first | refine Ai Aa ?_ | refine Al Aa ?_ | refine Af Aa ?_ | refine Av Aa Ab hS ?_ | refine Ba Aa Ab hS ?_ | refine Ag Aa ?_ | refine Ae Aa ?_ | refine Be Aa ?_ | refine g_cap Aa ?_ | refine Bl Aa ?_ | refine Bd Aa ?_ | refine Cj Aa ?_ | refine Ca Aa ?_ | refine Cz Aa ?_ | refine Cq Aa ?_ | refine Ak Aa ?_ | refine Aj Aa ?_ | refine Aw Aa (fun hc => ?_) (fun hc => ?_) | refine Cg Aa ?_ | refine Bz Aa ?_ | refine Ck Aa ?_ | refine Cd Aa ?_ | refine Az Aa ?_ | refine g_field1 Aa ?_ | refine g_fieldR Aa ?_ | refine Bx Aa ?_ | refine Bu Aa ?_ | refine Ax Aa ?_ | refine Dj Aa ?_ | refine Bq Aa ?_ | refine Bk Aa ?_ | refine Bw Aa ?_ | refine Bh Aa ?_ | refine Bc Aa ?_ | refine Au Aa ?_ | refine g_nilCheck Aa ?_ | refine Cp Aa ?_ | refine Ar Aa ?_) <;> refine Ad ?_) | ((first | refine Ay Aa Ab hS ?_ | refine Cu Aa Ab hS ?_ | refine Ao Aa Ab hS ?_ | refine As Aa Ab hS ?_ | refine g_make Aa Ab hS ?_); clear hS; intro b w hS; refine Ad ?_) | ((first | refine Br Aa Ab hS ?_ | refine Ap Aa Ab hS ?_ | refine Aq Aa Ab hS ?_); clear hS; intro w hS; refine Ad ?_)) | ((fail_if_success (with_reducible refine Ac ?_)); first | go_step | go_step3 | rw [Exit.noGoto_normal] | rw [Exit.noGoto_ret] | rw [Exit.noGoto_exit]))
              go_ret
              exact ⟨rfl, hBW.trans (hS.below.mono hBW.size)⟩
            · have h2 := hGA.resolve_left h1
              refine Bv 17 (by kernel_rfl) (by kernel_rfl) ?_
              dsimp only [List.take, List.drop]
              iterate 17 (first | (refine Dc (fun _ => rfl) ?_; simp only [Act.put, List.setIfInBounds_toArray, List.set_cons_zero, List.set_cons_succ]) | (refine Cw (by rfl) (fun _ => rfl) _ (fun w => r_alloc (a := ⟨#[], []⟩) rfl (by infer_instance)) ?_; simp only [Act.put, List.setIfInBounds_toArray, List.set_cons_zero, List.set_cons_succ]) | (refine Cr rfl (fun _ => rfl) (fun K hK => ?_); apply Exists.intro; apply Exists.intro; apply Exists.intro; apply Exists.intro; refine ⟨fun pB w' hw' hF => ?_, hK _ _ ?_⟩; (focus (exact Cf (by rfl) (by rfl) (by infer_instance) (by rfl) (by repeat (first | exact (fun _ h => absurd h List.not_mem_nil) | refine List.forall_mem_cons.2 ⟨by first | rfl | (simp only [Value.cells]; first | rfl | omega), ?_⟩)) (by (try conv => lhs; simp only [List.flatMap_cons, List.flatMap_nil, Value.cells, List.append_nil, List.cons_append, List.nil_append]); first | done | rfl) (by decide) (by decide))); clear hK K; simp only [Act.put, List.setIfInBounds_toArray, List.set_cons_zero, List.set_cons_succ]) | (refine Dd (fun _ => rfl) (fun K hK => ?_); apply Exists.intro; refine ⟨fun pB w' hw' hF => ?_, hK _ _ ?_⟩; (focus (have hZ := (Ab).call hS hw'; first | exact (Cn (r_txt (by rfl) (by rfl) Try.underlying22 Try.underlying5 Try.underlying9 (by first | exact bytesAt_whole (Ab.blk 0 hZ rfl) lG | exact hbE1 _ (hZ.far hbx).1 | exact hbE2 _ (hZ.far hby).1))) | exact (Cn (r_eqTx (by rfl) (by rfl) (by rfl) (decide_eq_false h1))) | exact (Cn (r_eqTx (by rfl) (by rfl) (by rfl) (decide_eq_true h2))) | exact q_move | exact Dh | exact q_load1 Ab hZ | exact q_load1F (by first | exact ((hZ).far hbx).1) | exact q_load1F (by first | exact ((hZ).far hby).1) | exact q_loadR Ab hZ | exact q_loadRF (by first | exact ((hZ).far hbx).1) | exact q_loadRF (by first | exact ((hZ).far hby).1) | exact Ci | exact Cb | exact q_len | exact q_cap | exact Cy | exact q_add | exact q_sub | exact q_mul | exact q_quo | exact q_rem | exact q_cmp_t | exact q_cmp_f | exact De | exact Cx | exact Df | exact Cv | exact Ch | exact Di | exact Dg | exact Cm | exact Co | exact Bt | exact Cl | exact q_conv | exact q_pick | exact q_not | exact Db | exact Ct | exact Cc | exact Dk | exact Dl | exact Cs)); clear hK K; simp only [Act.put, List.setIfInBounds_toArray, List.set_cons_zero, List.set_cons_succ]))
              refine wpM_nil ?_
              intro pB w hcq hfq hnq
              replace hS := (Ab).news hS hcq _ (by first | decide | simp) hfq hnq
              first | simp only [List.map_nil, List.nil_append] at hS | simp only [List.map_cons, List.map_nil, List.cons_append, List.nil_append] at hS
              clear hcq hfq hnq
              try dsimp only
              repeat' (first | ((with_reducible refine Ac ?_); first | ((first | refine Ai Aa ?_ | refine Al Aa ?_ | refine Af Aa ?_ | refine Av Aa Ab hS ?_ | refine Ba Aa Ab hS ?_ | refine Ag Aa ?_ | refine Ae Aa ?_ | refine Be Aa ?_ | refine g_cap Aa ?_ | refine Bl Aa ?_ | refine Bd Aa ?_ | refine Cj Aa ?_ | refine Ca Aa ?_ | refine Cz Aa ?_ | refine Cq Aa ?_ | refine Ak Aa ?_ | refine Aj Aa ?_ | refine Aw Aa (fun hc => ?_) (fun hc => ?_) | refine Cg Aa ?_ | refine Bz Aa ?_ | refine Ck Aa ?_ | refine Cd Aa ?_ | refine Az Aa ?_ | refine g_field1 Aa ?_ | refine g_fieldR Aa ?_ | refine Bx Aa ?_ | refine Bu Aa ?_ | refine Ax Aa ?_ | refine Dj Aa ?_ | refine Bq Aa ?_ | refine Bk Aa ?_ | refine Bw Aa ?_ | refine Bh Aa ?_ | refine Bc Aa ?_ | refine Au Aa ?_ | refine g_nilCheck Aa ?_ | refine Cp Aa ?_ | refine Ar Aa ?_) <;> refine Ad ?_) | ((first | refine Ay Aa Ab hS ?_ | refine Cu Aa Ab hS ?_ | refine Ao Aa Ab hS ?_ | refine As Aa Ab hS ?_ | refine g_make Aa Ab hS ?_); clear hS; intro b w hS; refine Ad ?_) | ((first | refine Br Aa Ab hS ?_ | refine Ap Aa Ab hS ?_ | refine Aq Aa Ab hS ?_); clear hS; intro w hS; refine Ad ?_)) | ((fail_if_success (with_reducible refine Ac ?_)); first | go_step | go_step3 | rw [Exit.noGoto_normal] | rw [Exit.noGoto_ret] | rw [Exit.noGoto_exit]))
              go_ret
              exact ⟨rfl, hBW.trans (hS.below.mono hBW.size)⟩
end Go.Proofs.Ytcjncidahjneaaa

namespace Go.Proofs.Ytcjncidahjneaaa
open Go.ChangeShapes Go.WideShapes Go.ChangeAt Go.RowKit
set_option maxRecDepth 100000
theorem cells_num : Try.prog.cellsOf 3 = 1 := by kernel_rfl
theorem open_nums {H : Type} {enc : TypeId × Value → H} {w : World} {base : Nat} {sp : Nat → Bool} {held : Bool} {v : Value} {d : DataW H} {p : List MemPlace}
    (hv : ∃ a len cap, v = .slice a len cap) (hr : DataW.Trod enc Try.prog w base sp held 59 v d p) : ∃ l : List Int, OwAt intC w v l ∧ l.length ≤ maxLen := by
  obtain ⟨l, ⟨p, c, h1, h2, h3, h4⟩, hm⟩ := open_gen (z := (0 : Int)) intC Try.underlying59 cells_num (by omega) (fun _ => rfl) (fun _ _ _ hf _ => by
    obtain ⟨n, e1, _⟩ := trod_int1 Try.underlying3 hf
    exact ⟨n, e1⟩) hv hr
  refine ⟨l, ⟨p, c, h1, h2, h3, fun hne => ?_⟩, hm⟩
  obtain ⟨b, o, cs, t, fr, h5, h6, h7⟩ := h4 hne
  exact ⟨b, o, cs, t, fr, h5, h6, fun j x hj => by
    have := h7 j x hj
    rwa [Array.getElem?_toList] at this⟩
end Go.Proofs.Ytcjncidahjneaaa

namespace Go.Proofs.Ytcjncidahjneaaa
open Go.ChangeShapes Go.WideShapes Go.ChangeAt Go.RowKit

theorem Try.own : ownKnob Try.prog.godebug = none := by kernel_rfl
theorem Try.laidOut : laidOutB Try.prog = true := by kernel_rfl

set_option maxRecDepth 100000 in
theorem redoMixed_lifted (os : Os) (started : os.Started) (H : Type) (enc : TypeId × Value → H) :
    ReturnsInHanded {} Try.checked os 7 .any (Rows.redoMixedSpec.pre6 enc Try.prog Try.f7 Rows.redoMixedRow.domain false) (Rows.redoMixedSpec.post enc Try.prog Try.f7 false true false false) := by
  refine law_lift (C := Try.checked) Try.own started (by kernel_rfl) Try.func7
    (ChangeSpec.witness6 (enc := enc) (C := Try.checked) false ⟨#[], #[.agg #[.slice none 0 0, .int .i64 0, .slice none 0 0, .int .i64 0], .agg #[.slice none 0 0, .int .i64 0, .slice none 0 0, .int .i64 0], .slice none 0 0], []⟩ 8 (by kernel_rfl) (by kernel_rfl) (by kernel_rfl) (by kernel_rfl))
    rfl (by kernel_rfl) Try.underlying4 (fun ds h => by match ds, h with | [a, b, c], _ => exact ⟨rfl, rfl, rfl⟩) Try.laidOut (by kernel_rfl) ?_
  intro W base args ds p hval0 hA0 hlt hsz0
  have hval : ∀ (j : Nat) t v, Try.f7.params[j]? = some t → args[j]? = some v → Value.okWide Try.prog W .any base t v := hval0
  have hA : DataW.TrodAll enc Try.prog W 0 (fun _ => true) true Try.f7.params.toList args.toList ds p := hA0
  have hsz : (DataW.weightsEach Try.prog Try.f7.params.toList ds).all (· ≤ reachBytes) = true := hsz0
  rw [Try.params7] at hA hval hsz
  obtain ⟨v0, v1, v2, d0, d1, d2, p0, p1, p2, rfl, rfl, rfl, h0, h1, h2⟩ := trodAll_three hA

  obtain ⟨kv0, rv0, key0, n0, m0, l0, A0, hn0, hm0, B0, rfl⟩ := open_entry (hval 0 _ v0 rfl rfl) h0
  obtain ⟨kv1, rv1, key1, n1, m1, l1, A1, hn1, hm1, B1, rfl⟩ := open_entry (hval 1 _ v1 rfl rfl) h1
  obtain ⟨x2, lx2, mx2⟩ := open_nums (okWide_slice Try.underlying59 (hval 2 _ v2 rfl rfl)) h2
  exact redoMixed_any key0 key1 n0 n1 m0 m1 hn0 hn1 l0 l1 x2 kv0 kv1 rv0 rv1 v2 W A0 A1 B0 B1 lx2

theorem redoMixed_holds : Rows.RedoMixedSaid :=
  OpenClaim.holds_of_wide 7 Try.f7 rfl rfl rfl rfl rfl rfl rfl ⟨rfl, rfl, rfl, rfl, rfl⟩ rfl rfl rfl rfl rfl (by kernel_rfl) Try.func7 (by kernel_rfl)
    (of_decide_eq_true (by kernel_rfl)) (by unfold Func.isWrapper; rw [if_neg (by decide +kernel)]; exact ⟨rfl, rfl⟩)
    (fun os started H enc _ => redoMixed_lifted os started H enc)

end Go.Proofs.Ytcjncidahjneaaa
