/-
  Laws that the claims of this seat use, of several texts in one: Sh6. No condition of their own.
-/
import Derived.Test.YtcjncidahjneaaaJE0

namespace Go.Proofs.Ytcjncidahjneaaa
open Go.ChangeShapes Go.WideShapes Go.ChangeAt Go.RowKit
attribute [local irreducible] wpList wpListIn Oper.quietAt wpM
theorem rndsL_succ (v : S8) (K W : List W32) (i : Nat) : rndsL v K W (i + 1) = rndL (rndsL v K W i) (K.getD i 0) (W.getD i 0) := rfl
theorem fill8 (a b c d e f g h : W32) : Instr.fill (fun i => some (i * 1, 1)) ((zw 8).map wv).toArray [(0, wv a), (1, wv b), (2, wv c), (3, wv d), (4, wv e), (5, wv f), (6, wv g), (7, wv h)] = some (wvs [a, b, c, d, e, f, g, h]) :=
  fill_of (cs := [a, b, c, d, e, f, g, h].map wv) (FillS.one (off := 0) rfl rfl (by show 0 < 8; decide) rfl (FillS.one (off := 1) rfl rfl (by show 1 < 8; decide) rfl (FillS.one (off := 2) rfl rfl (by show 2 < 8; decide) rfl (FillS.one (off := 3) rfl rfl (by show 3 < 8; decide) rfl (FillS.one (off := 4) rfl rfl (by show 4 < 8; decide) rfl (FillS.one (off := 5) rfl rfl (by show 5 < 8; decide) rfl (FillS.one (off := 6) rfl rfl (by show 6 < 8; decide) rfl (FillS.one (off := 7) rfl rfl (by show 7 < 8; decide) rfl (FillS.nil)))))))))
set_option maxRecDepth 100000 in
set_option maxHeartbeats 4000000 in
theorem refTake_any (h : S8) (W K : List W32) (hW : W.length = 64) (hK : K.length = 64) (w0 : World) :
    Calls Try.prog 62 #[.agg (wvs h.toL), .agg (wvs W), .agg (wvs K)] w0 fun e w' => e = .returned (.agg (wvs (addL h (rndsL h K W 64)).toL)) ∧ Below w0.heap.size w0 w' := by
  have hS := St.start w0
  have s2 : csz (wvs W) = 64 := by rw [csz_wvs, hW]
  have s4 : csz (wvs K) = 64 := by rw [csz_wvs, hK]
  have s3 := csz_zw 8
  obtain ⟨v, hv⟩ : ∃ v, rndsL h K W 0 = v := ⟨_, rfl⟩
  obtain ⟨r, hr⟩ : ∃ r, rndsL h K W 64 = r := ⟨_, rfl⟩
  rw [hr]
  have hv0 : h = v := hv
  obtain ⟨A0, B0, C0, D0, E0, F0, G0, H0⟩ := h
  subst hv0
  go_enter Try.func62, Try.ntmps62
  repeat' (first | ((with_reducible refine Ac ?_); first | ((first | refine Ai Aa ?_ | refine Al Aa ?_ | refine Af Aa ?_ | refine Av Aa Ab hS ?_ | refine Ag Aa ?_ | refine Ae Aa ?_ | refine Bd Aa ?_ | refine Ak Aa ?_ | refine Aj Aa ?_ | refine Aw Aa (fun hc => ?_) (fun hc => ?_) | refine Bw Aa ?_ | refine Cp Aa ?_ | refine Ar Aa ?_) <;> refine Ad ?_) | ((first | refine Ay Aa Ab hS ?_ | refine Cu Aa Ab hS ?_ | refine Ao Aa Ab hS ?_ | refine As Aa Ab hS ?_); clear hS; intro b w hS; refine Ad ?_) | ((first | refine Ap Aa Ab hS ?_ | refine Aq Aa Ab hS ?_); clear hS; intro w hS; refine Ad ?_)) | ((fail_if_success (with_reducible refine Ac ?_)); first | go_step | go_step3 | rw [Exit.noGoto_normal] | rw [Exit.noGoto_ret] | rw [Exit.noGoto_exit]))
  refine Bv 24 (by kernel_rfl) (by kernel_rfl) ?_
  dsimp only [List.take, List.drop]
  iterate 24 (first | (refine Dc (fun _ => rfl) ?_; simp only [Act.put, List.setIfInBounds_toArray, List.set_cons_zero, List.set_cons_succ]) | (refine Cw (by rfl) (fun _ => rfl) _ (fun w => r_alloc (a := ⟨#[], []⟩) rfl (by infer_instance)) ?_; simp only [Act.put, List.setIfInBounds_toArray, List.set_cons_zero, List.set_cons_succ]) | (refine Cr rfl (fun _ => rfl) (fun K hK => ?_); apply Exists.intro; apply Exists.intro; apply Exists.intro; apply Exists.intro; refine ⟨fun pB w' hw' hF => ?_, hK _ _ ?_⟩; (focus (exact Cf (by rfl) (by rfl) (by infer_instance) (by rfl) (by repeat (first | exact (fun _ h => absurd h List.not_mem_nil) | refine List.forall_mem_cons.2 ⟨by first | rfl | (simp only [Value.cells]; first | rfl | omega), ?_⟩)) (by (try conv => lhs; simp only [List.flatMap_cons, List.flatMap_nil, Value.cells, List.append_nil, List.cons_append, List.nil_append]); first | done | rfl) (by decide) (by decide))); clear hK K; simp only [Act.put, List.setIfInBounds_toArray, List.set_cons_zero, List.set_cons_succ]) | (refine Dd (fun _ => rfl) (fun K hK => ?_); apply Exists.intro; refine ⟨fun pB w' hw' hF => ?_, hK _ _ ?_⟩; (focus (have hZ := (Ab).call hS hw'; first | exact q_move | exact Dh | exact q_load1 Ab hZ | exact q_loadR Ab hZ | exact Ci | exact Cb | exact q_len | exact q_cap | exact Cy | exact q_add | exact q_sub | exact q_mul | exact q_quo | exact q_rem | exact q_cmp_t | exact q_cmp_f | exact De | exact Cx | exact Df | exact Cv | exact Ch | exact Di | exact Dg | exact Cm | exact Co | exact Bt | exact Cl | exact q_conv | exact q_pick | exact q_not | exact Db | exact Ct | exact Cc | exact Dk | exact Dl | exact Cs)); clear hK K; simp only [Act.put, List.setIfInBounds_toArray, List.set_cons_zero, List.set_cons_succ]))
  refine wpM_nil ?_
  intro pB w hcq hfq hnq
  replace hS := (Ab).news hS hcq _ (by first | decide | simp) hfq hnq
  first | simp only [List.map_nil, List.nil_append] at hS | simp only [List.map_cons, List.map_nil, List.cons_append, List.nil_append] at hS
  clear hcq hfq hnq
  try dsimp only
  repeat' (first | ((with_reducible refine Ac ?_); first | ((first | refine Ai Aa ?_ | refine Al Aa ?_ | refine Af Aa ?_ | refine Av Aa Ab hS ?_ | refine Ag Aa ?_ | refine Ae Aa ?_ | refine Bd Aa ?_ | refine Ak Aa ?_ | refine Aj Aa ?_ | refine Aw Aa (fun hc => ?_) (fun hc => ?_) | refine Bw Aa ?_ | refine Cp Aa ?_ | refine Ar Aa ?_) <;> refine Ad ?_) | ((first | refine Ay Aa Ab hS ?_ | refine Cu Aa Ab hS ?_ | refine Ao Aa Ab hS ?_ | refine As Aa Ab hS ?_); clear hS; intro b w hS; refine Ad ?_) | ((first | refine Ap Aa Ab hS ?_ | refine Aq Aa Ab hS ?_); clear hS; intro w hS; refine Ad ?_)) | ((fail_if_success (with_reducible refine Ac ?_)); first | go_step | go_step3 | rw [Exit.noGoto_normal] | rw [Exit.noGoto_ret] | rw [Exit.noGoto_exit]))
  rename_i bh x1 bw x2 bk x3 x4 KK hKK
  go_loopw [7, 8, 9, 10, 11, 12, 13, 14, 15, 16, 17] (fun u7 u8 u9 u10 u11 u12 u13 u14 u15 u16 u17 wr => ∃ (k : Nat) (v : S8), k ≤ 64 ∧ rndsL ⟨A0, B0, C0, D0, E0, F0, G0, H0⟩ K W k = v ∧ u15 = .int .i64 (k : Int) ∧ u7 = .int .u32 (v.a.toNat : Int) ∧ u8 = .int .u32 (v.b.toNat : Int) ∧ u9 = .int .u32 (v.c.toNat : Int) ∧ u10 = .int .u32 (v.d.toNat : Int) ∧ u11 = .int .u32 (v.e.toNat : Int) ∧ u12 = .int .u32 (v.f.toNat : Int) ∧ u13 = .int .u32 (v.g.toNat : Int) ∧ u14 = .int .u32 (v.h.toNat : Int) ∧ St w0 wr [(b, wvs (zw 8), 120), (bk, wvs K, 119), (bw, wvs W, 119), (bh, wvs (S8.toL ⟨A0, B0, C0, D0, E0, F0, G0, H0⟩), 120)]) (fun u7 u8 u9 u10 u11 u12 u13 u14 u15 u16 u17 _ => 64 - (intOf u15).toNat)
  case atStart => exact ⟨0, _, by omega, rfl, rfl, rfl, rfl, rfl, rfl, rfl, rfl, rfl, rfl, hS⟩
  case round =>
    obtain ⟨k, v, hk, hv, rfl, rfl, rfl, rfl, rfl, rfl, rfl, rfl, rfl, hS⟩ := hrel
    obtain ⟨A, B, C, D, E, F, G, H⟩ := v
    dsimp only
    by_cases hlt : k < 64
    · have hK1 := wvs_get (l := K) (k := k) (by omega)
      have hW1 := wvs_get (l := W) (k := k) (by omega)
      have hn := rndsL_succ ⟨A0, B0, C0, D0, E0, F0, G0, H0⟩ K W k
      rw [hv] at hn
      obtain ⟨x, hx⟩ : ∃ x, K.getD k 0 = x := ⟨_, rfl⟩
      obtain ⟨y, hy⟩ : ∃ y, W.getD k 0 = y := ⟨_, rfl⟩
      rw [hx] at hK1 hn
      rw [hy] at hW1 hn
      have hch := ch_is E F G
      have hmj := maj_is A B C
      clear hv hx hy
      repeat' (first | ((with_reducible refine Ac ?_); first | ((first | refine Ai Aa ?_ | refine Al Aa ?_ | refine Af Aa ?_ | refine Av Aa Ab hS ?_ | refine Ag Aa ?_ | refine Ae Aa ?_ | refine Bd Aa ?_ | refine Ak Aa ?_ | refine Aj Aa ?_ | refine Aw Aa (fun hc => ?_) (fun hc => ?_) | refine Bw Aa ?_ | refine Cp Aa ?_ | refine Ar Aa ?_) <;> refine Ad ?_) | ((first | refine Ay Aa Ab hS ?_ | refine Cu Aa Ab hS ?_ | refine Ao Aa Ab hS ?_ | refine As Aa Ab hS ?_); clear hS; intro b w hS; refine Ad ?_) | ((first | refine Ap Aa Ab hS ?_ | refine Aq Aa Ab hS ?_); clear hS; intro w hS; refine Ad ?_)) | ((fail_if_success (with_reducible refine Ac ?_)); first | go_step | go_step3 | rw [Exit.noGoto_normal] | rw [Exit.noGoto_ret] | rw [Exit.noGoto_exit]))
      refine Bv 28 (by kernel_rfl) (by kernel_rfl) ?_
      dsimp only [List.take, List.drop]
      iterate 28 (first | (refine Dc (fun _ => rfl) ?_; simp only [Act.put, List.setIfInBounds_toArray, List.set_cons_zero, List.set_cons_succ]) | (refine Cw (by rfl) (fun _ => rfl) _ (fun w => r_alloc (a := ⟨#[], []⟩) rfl (by infer_instance)) ?_; simp only [Act.put, List.setIfInBounds_toArray, List.set_cons_zero, List.set_cons_succ]) | (refine Cr rfl (fun _ => rfl) (fun K hK => ?_); apply Exists.intro; apply Exists.intro; apply Exists.intro; apply Exists.intro; refine ⟨fun pB w' hw' hF => ?_, hK _ _ ?_⟩; (focus (exact Cf (by rfl) (by rfl) (by infer_instance) (by rfl) (by repeat (first | exact (fun _ h => absurd h List.not_mem_nil) | refine List.forall_mem_cons.2 ⟨by first | rfl | (simp only [Value.cells]; first | rfl | omega), ?_⟩)) (by (try conv => lhs; simp only [List.flatMap_cons, List.flatMap_nil, Value.cells, List.append_nil, List.cons_append, List.nil_append]); first | done | rfl) (by decide) (by decide))); clear hK K; simp only [Act.put, List.setIfInBounds_toArray, List.set_cons_zero, List.set_cons_succ]) | (refine Dd (fun _ => rfl) (fun K hK => ?_); apply Exists.intro; refine ⟨fun pB w' hw' hF => ?_, hK _ _ ?_⟩; (focus (have hZ := (Ab).call hS hw'; first | exact (g_qcall (refRotr_any _ 6 (by omega) _)) | exact (g_qcall (refRotr_any _ 11 (by omega) _)) | exact (g_qcall (refRotr_any _ 25 (by omega) _)) | exact (Cn (r_xorW (by rfl) (by rfl) (by rfl))) | exact (Cn (r_andW (by rfl) (by rfl) (by rfl))) | exact (Cn (r_notW (by rfl) (by rfl))) | exact (Cn (r_addW32 (by rfl) (by rfl) (by rfl))) | exact q_move | exact Dh | exact q_load1 Ab hZ (hv := by first | rfl | exact Bi | (rw [Array.getElem?_toList]; first | exact hK1 | exact hW1)) | exact q_loadR Ab hZ (hv := by first | exact Bo _ _ (by (try simp only [Bn, Bg, Bm, List.length_append, List.length_set, zs_len, List.length_take, List.length_drop, List.length_cons, List.length_nil]); first | done | rfl | omega) | (first | exact hK1 | exact hW1) | rfl) | exact Ci | exact Cb | exact q_len | exact q_cap | exact Cy | exact q_add | exact q_sub | exact q_mul | exact q_quo | exact q_rem | exact q_cmp_t | exact q_cmp_f | exact De | exact Cx | exact Df | exact Cv | exact Ch | exact Di (hv' := by first | rfl | exact Bi | (rw [Array.getElem?_toList]; first | exact hK1 | exact hW1)) | exact Dg | exact Cm | exact Co | exact Bt | exact Cl | exact q_conv | exact q_pick | exact q_not | exact Db | exact Ct | exact Cc | exact Dk | exact Dl | exact Cs)); clear hK K; simp only [Act.put, List.setIfInBounds_toArray, List.set_cons_zero, List.set_cons_succ]))
      refine wpM_nil ?_
      intro pB w hcq hfq hnq
      replace hS := (Ab).news hS hcq _ (by first | decide | simp) hfq hnq
      first | simp only [List.map_nil, List.nil_append] at hS | simp only [List.map_cons, List.map_nil, List.cons_append, List.nil_append] at hS
      clear hcq hfq hnq
      try dsimp only
      rw [hch]
      repeat' (first | ((with_reducible refine Ac ?_); first | ((first | refine Ai Aa ?_ | refine Al Aa ?_ | refine Af Aa ?_ | refine Av Aa Ab hS ?_ | refine Ag Aa ?_ | refine Ae Aa ?_ | refine Bd Aa ?_ | refine Ak Aa ?_ | refine Aj Aa ?_ | refine Aw Aa (fun hc => ?_) (fun hc => ?_) | refine Bw Aa ?_ | refine Cp Aa ?_ | refine Ar Aa ?_) <;> refine Ad ?_) | ((first | refine Ay Aa Ab hS ?_ | refine Cu Aa Ab hS ?_ | refine Ao Aa Ab hS ?_ | refine As Aa Ab hS ?_); clear hS; intro b w hS; refine Ad ?_) | ((first | refine Ap Aa Ab hS ?_ | refine Aq Aa Ab hS ?_); clear hS; intro w hS; refine Ad ?_) | (refine Ce Aa Ab hS (refRotr_any _ 2 (by omega) _) ?_; clear hS; intro w hS; refine Ad ?_) | (refine Ce Aa Ab hS (refRotr_any _ 13 (by omega) _) ?_; clear hS; intro w hS; refine Ad ?_) | (refine Ce Aa Ab hS (refRotr_any _ 22 (by omega) _) ?_; clear hS; intro w hS; refine Ad ?_) | (refine Stp.go Aa (by rfl) (by rfl) (r_xorW (by rfl) (by rfl) (by rfl)) ?_; refine Ad ?_) | (refine Stp.go Aa (by rfl) (by rfl) (r_andW (by rfl) (by rfl) (by rfl)) ?_; refine Ad ?_) | (refine Stp.go Aa (by rfl) (by rfl) (r_addW32 (by rfl) (by rfl) (by rfl)) ?_; refine Ad ?_)) | ((fail_if_success (with_reducible refine Ac ?_)); first | go_step | go_step3 | rw [Exit.noGoto_normal] | rw [Exit.noGoto_ret] | rw [Exit.noGoto_exit]))
      go_roundw
      case rel => exact ⟨k + 1, _, by omega, hn, by push_cast; rfl, by rw [hmj]; rfl, rfl, rfl, rfl, rfl, rfl, rfl, rfl, hS⟩
      case measure => first | (simp [intOf]; done) | (simp [intOf]; omega)
    · obtain rfl : k = 64 := by omega
      rw [hv] at hr
      subst hr
      have s5 := csz_toL (addL ⟨A0, B0, C0, D0, E0, F0, G0, H0⟩ ⟨A, B, C, D, E, F, G, H⟩)
      repeat' (first | ((with_reducible refine Ac ?_); first | ((first | refine Ai Aa ?_ | refine Al Aa ?_ | refine Af Aa ?_ | refine Av Aa Ab hS ?_ | refine Ag Aa ?_ | refine Ae Aa ?_ | refine Bd Aa ?_ | refine Ak Aa ?_ | refine Aj Aa ?_ | refine Aw Aa (fun hc => ?_) (fun hc => ?_) | refine Bw Aa ?_ | refine Cp Aa ?_ | refine Ar Aa ?_) <;> refine Ad ?_) | ((first | refine Ay Aa Ab hS ?_ | refine Cu Aa Ab hS ?_ | refine Ao Aa Ab hS ?_ | refine As Aa Ab hS ?_); clear hS; intro b w hS; refine Ad ?_) | ((first | refine Ap Aa Ab hS ?_ | refine Aq Aa Ab hS ?_); clear hS; intro w hS; refine Ad ?_) | (refine Stp.go Aa (by rfl) (by rfl) (r_addW32 (by rfl) (by rfl) (by rfl)) ?_; refine Ad ?_)) | ((fail_if_success (with_reducible refine Ac ?_)); first | go_step | go_step3 | rw [Exit.noGoto_normal] | rw [Exit.noGoto_ret] | rw [Exit.noGoto_exit]))
      refine Stp.go Aa (by rfl) (by rfl) (v := .agg (wvs (addL ⟨A0, B0, C0, D0, E0, F0, G0, H0⟩ ⟨A, B, C, D, E, F, G, H⟩).toL)) (w' := wr) (r_built (by rfl) (by rfl) (built_at (n := 1) (z := (zw 8).map wv) (by infer_instance) (fill8 (A0 + A) (B0 + B) (C0 + C) (D0 + D) (E0 + E) (F0 + F) (G0 + G) (H0 + H)))) ?_
      refine Ad ?_
      repeat' (first | ((with_reducible refine Ac ?_); first | ((first | refine Ai Aa ?_ | refine Al Aa ?_ | refine Af Aa ?_ | refine Av Aa Ab hS ?_ | refine Ag Aa ?_ | refine Ae Aa ?_ | refine Bd Aa ?_ | refine Ak Aa ?_ | refine Aj Aa ?_ | refine Aw Aa (fun hc => ?_) (fun hc => ?_) | refine Bw Aa ?_ | refine Cp Aa ?_ | refine Ar Aa ?_) <;> refine Ad ?_) | ((first | refine Ay Aa Ab hS ?_ | refine Cu Aa Ab hS ?_ | refine Ao Aa Ab hS ?_ | refine As Aa Ab hS ?_); clear hS; intro b w hS; refine Ad ?_) | ((first | refine Ap Aa Ab hS ?_ | refine Aq Aa Ab hS ?_); clear hS; intro w hS; refine Ad ?_) | (refine Ap Aa Ab hS ?_ (hv := ones_wvs _); clear hS; intro w hS; refine Ad ?_)) | ((fail_if_success (with_reducible refine Ac ?_)); first | go_step | go_step3 | rw [Exit.noGoto_normal] | rw [Exit.noGoto_ret] | rw [Exit.noGoto_exit]))
      exact post_cell (n := 8) Try.results62 (by kernel_rfl) (.inl rfl) _ _ _ _ rfl rfl (hS.blk 0 rfl) (by rfl) ⟨rfl, hS.below⟩
end Go.Proofs.Ytcjncidahjneaaa
