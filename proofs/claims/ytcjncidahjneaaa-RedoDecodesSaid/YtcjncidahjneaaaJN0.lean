/-
  Laws that the claims of this seat use, of several texts in one: RdF, RdG, OpenG, TrodB, RdP. No condition of their own.
-/
import Derived.OwnWalk
import Derived.Test.YtcjncidahjneaaaJM0

namespace Go.Proofs.Ytcjncidahjneaaa
open Go.ChangeShapes Go.WideShapes Go.ChangeAt Go.RowKit
attribute [local irreducible] wpList wpListIn Oper.quietAt wpM
attribute [local irreducible] encL
theorem celX_take {X : List UInt8} {m k : Nat} (h : k < m) : celX (X.take (128 * m)) k = celX X k := by
  unfold celX
  rw [List.drop_take, List.take_take, Nat.min_eq_left (by omega)]
theorem bodyL_snoc (l : List Pt) (x : Pt) : bodyL (l ++ [x]) = bodyL l ++ x.2 := by unfold bodyL; rw [List.flatMap_append, List.flatMap_singleton]
theorem take_body (X : List UInt8) : ∀ i, i ≤ saysR (celX X 0) → X.take (128 * (i + 2)) = celX X 0 ++ (celX X 1 ++ bodyL ((putsD X).take i))
  | 0, _ => by
    rw [List.take_zero, show bodyL [] = [] from rfl, List.append_nil]
    have h1 := celX_next X 1
    have h0 := celX_next X 0
    rw [Nat.mul_zero, List.take_zero, List.nil_append] at h0
    rw [show (0 + 2 : Nat) = 1 + 1 from rfl, h1, show (1 : Nat) = 0 + 1 from rfl, h0]
  | i + 1, h => by
    have ih := take_body X i (by omega)
    have h1 := celX_next X (i + 2)
    rw [show i + 1 + 2 = i + 2 + 1 by omega, h1, ih, putsD_next (by omega), bodyL_snoc, List.append_assoc, List.append_assoc, Nat.add_comm 2 i]
theorem decOk_iff {key X : List UInt8} {n : Nat} (hX : X.length = 128 * n) (hn : 2 + saysR (celX X 0) ≤ n) : DecOk key X n ↔ (0 ≤ cntR (celX X 0) ∧ soundP (putsD X)) ∧ encL key (cntR (celX X 0)) (putsD X) = X.take (128 * (saysR (celX X 0) + 2)) := by
  have hb := take_body X _ (Nat.le_refl _)
  rw [List.take_of_length_le (l := putsD X) (by rw [putsD_len]; exact Nat.le_refl _)] at hb
  have l0 := celX_len hX (show 0 < n by omega)
  have l1 := celX_len hX (show 1 < n by omega)
  unfold DecOk
  constructor
  · rintro ⟨_, _, h1, h2, h3, h4⟩
    refine ⟨⟨h1, h2⟩, ?_⟩
    rw [hb]
    unfold encL
    rw [h3, h4]
  · rintro ⟨⟨h1, h2⟩, h3⟩
    rw [hb] at h3
    unfold encL at h3
    have lF := firstC_len (cntR (celX X 0)) h2.2.2
    obtain ⟨e1, e2⟩ := List.append_inj h3 (by rw [lF, l0])
    obtain ⟨e3, e4⟩ := List.append_inj e2 (by rw [tagC_len, l1])
    refine ⟨by omega, hn, h1, h2, e1, ?_⟩
    rw [e1] at e3
    exact e3
theorem natC_map (l : List Nat) : l.flatMap natC = l.map fun n => .int .i64 (n : Int) := by
  induction l with
  | nil => rfl
  | cons a l ih => rw [List.flatMap_cons, List.map_cons, ih]; rfl
set_option maxRecDepth 100000 in
set_option maxHeartbeats 8000000 in
theorem refDecode_any (key : List UInt8) (hk : key.length ≤ 1000000) (X : List UInt8) (n : Nat) (hn : n ≤ 100000) (kv v : Value) (w0 : World) (hkv : BytesAt w0 kv key) (hv : CellsAt w0 v X n) :
    Calls Try.prog 24 #[kv, v] w0 fun e w' => ∃ (ok : Bool) (cnt : Int) (pv : Value) (l : List Pt), e = .returned (.tuple #[.int .i64 cnt, pv, .bool ok]) ∧ OwnL putC 129 70 w0.heap.size w' pv l ∧ (ok = true ↔ DecOk key X n) ∧ (ok = true → cnt = cntR (celX X 0) ∧ l = putsD X) ∧ (ok = false → cnt = 0 ∧ l = []) ∧ Below w0.heap.size w0 w' := by
  obtain ⟨hX, p, c, rfl, hc, hp0, hcell⟩ := id hv
  have hS := St.start w0
  by_cases h2 : n < 2
  · have hno : ¬ DecOk key X n := fun h => by have := h.1; omega
    go_enter Try.func24, Try.ntmps24
    repeat' (first | ((with_reducible refine Ac ?_); first | ((first | refine Ai Aa ?_ | refine Al Aa ?_ | refine Af Aa ?_ | refine Av Aa Ab hS ?_ | refine Ba Aa Ab hS ?_ | refine Ag Aa ?_ | refine Ae Aa ?_ | refine Be Aa ?_ | refine Bl Aa ?_ | refine Bd Aa ?_ | refine Ak Aa ?_ | refine Aj Aa ?_ | refine Aw Aa (fun hc => ?_) (fun hc => ?_) | refine Bw Aa ?_ | refine Bh Aa ?_ | refine Bc Aa ?_ | refine Au Aa ?_ | refine Cp Aa ?_ | refine Ar Aa ?_) <;> refine Ad ?_) | ((first | refine Ao Aa Ab hS ?_ | refine As Aa Ab hS ?_); clear hS; intro b w hS; refine Ad ?_)) | ((fail_if_success (with_reducible refine Ac ?_)); first | go_step | go_step3 | rw [Exit.noGoto_normal] | rw [Exit.noGoto_ret] | rw [Exit.noGoto_exit]))
    go_ret3
    exact ⟨false, 0, _, [], rfl, .inl ⟨rfl, rfl⟩, by simpa using hno, by simp, by simp, hS.below⟩
  obtain ⟨b0, o0, cs, ty, fr, rfl, hb, hcc⟩ := hcell (by omega)
  obtain ⟨d1, d2, d3⟩ := celX_cut hX (show 0 < n by omega) hcc
  have hlF := celX_len hX (show 0 < n by omega)
  have hle := saysR_le (celX X 0)
  have hsy := fun w => says_any (celX X 0) hlF w
  have hsl := saysL_len (celX X 0)
  have hsn := @saysL_at (celX X 0)
  have hnx := @putsD_next X
  have hpl := putsD_len X
  have hpo := fun k hk => putsD_ok hX (k := k) hk
  have hiff := decOk_iff (key := key) hX
  have hqn : DecOk key X n → 2 + saysR (celX X 0) ≤ n := fun h => h.2.1
  have hb0 : ∀ w, blk w b0 = some (.cells cs ty fr) → BytesAt w (.slice (some ⟨b0, o0 + 0 * 128, none⟩) 128 128) (celX X 0) := fun w h => celX_bytes hX (by omega) h hcc rfl (Nat.le_refl _)
  have ht8 := fun v w hv => takeR_8 (celX X 0) (by omega) v w hv
  have hcn : wrap64 (beN ((celX X 0).take 8) : Int) = cntR (celX X 0) := rfl
  rw [hcn] at ht8
  clear hcn
  obtain ⟨q, hq⟩ : ∃ q, saysR (celX X 0) = q := ⟨_, rfl⟩
  simp only [hq] at hnx hsn
  rw [hq] at hle hsl hpl hiff hqn
  obtain ⟨sl, hsL⟩ : ∃ L, saysL (celX X 0) = L := ⟨_, rfl⟩
  rw [hsL] at hsl
  simp only [hsL] at hsn hsy
  clear hsL
  go_enter Try.func24, Try.ntmps24
  repeat' (first | ((with_reducible refine Ac ?_); first | ((first | refine Ai Aa ?_ | refine Al Aa ?_ | refine Af Aa ?_ | refine Av Aa Ab hS ?_ (hv := by first | rfl | exact Bi | (rw [Array.getElem?_toList]; exact d2)) | refine Bs Aa (by first | exact ((hS).far hb).1) ?_ (hv := by first | rfl | exact Bi | (rw [Array.getElem?_toList]; exact d2)) | refine Ba Aa Ab hS ?_ (hv := by first | exact Bo _ _ (by (try simp only [Bn, Bg, Bm, List.length_append, List.length_set, zs_len, List.length_take, List.length_drop, List.length_cons, List.length_nil]); first | done | rfl | omega) | (exact d2) | rfl) | refine Da Aa (by first | exact ((hS).far hb).1) ?_ (hv := by first | exact Bo _ _ (by (try simp only [Bn, Bg, Bm, List.length_append, List.length_set, zs_len, List.length_take, List.length_drop, List.length_cons, List.length_nil]); first | done | rfl | omega) | (exact d2) | rfl) | refine Ag Aa ?_ | refine Ae Aa ?_ | refine Be Aa ?_ | refine Bl Aa ?_ | refine Bd Aa ?_ | refine Ak Aa ?_ | refine Aj Aa ?_ | refine Aw Aa (fun hc => ?_) (fun hc => ?_) | refine Bw Aa ?_ | refine Bh Aa ?_ | refine Bc Aa ?_ | refine Au Aa ?_ | refine Cp Aa ?_ | refine Ar Aa ?_) <;> refine Ad ?_) | ((first | refine Ao Aa Ab hS ?_ | refine As Aa Ab hS ?_); clear hS; intro b w hS; refine Ad ?_)) | ((fail_if_success (with_reducible refine Ac ?_)); first | go_step | go_step3 | rw [Exit.noGoto_normal] | rw [Exit.noGoto_ret] | rw [Exit.noGoto_exit]))
  refine s_call Aa (by rfl) (by rfl) (by rfl) (by rfl) (by rfl) (by infer_instance) (hsy _) ?_
  rintro e w1 ⟨sv, rfl, hR, hB⟩
  refine ⟨_, rfl, ?_⟩
  refine Ad ?_
  obtain ⟨Lr, hR, hS⟩ := hR.join Ab hS hB
  clear hB hsy
  obtain ⟨ps, c1, hps⟩ := hR.slice
  rw [hsl] at hps
  subst hps
  by_cases hlt : n < 2 + q
  · have hno : ¬ DecOk key X n := fun h => by have := hqn h; omega
    repeat' (first | ((with_reducible refine Ac ?_); first | ((first | refine Ai Aa ?_ | refine Al Aa ?_ | refine Af Aa ?_ | refine Av Aa Ab hS ?_ | refine Ba Aa Ab hS ?_ | refine Ag Aa ?_ | refine Ae Aa ?_ | refine Be Aa ?_ | refine Bl Aa ?_ | refine Bd Aa ?_ | refine Ak Aa ?_ | refine Aj Aa ?_ | refine Aw Aa (fun hc => ?_) (fun hc => ?_) | refine Bw Aa ?_ | refine Bh Aa ?_ | refine Bc Aa ?_ | refine Au Aa ?_ | refine Cp Aa ?_ | refine Ar Aa ?_) <;> refine Ad ?_) | ((first | refine Ao Aa Ab hS ?_ | refine As Aa Ab hS ?_); clear hS; intro b w hS; refine Ad ?_)) | ((fail_if_success (with_reducible refine Ac ?_)); first | go_step | go_step3 | rw [Exit.noGoto_normal] | rw [Exit.noGoto_ret] | rw [Exit.noGoto_exit]))
    go_ret3
    exact ⟨false, 0, _, [], rfl, .inl ⟨rfl, rfl⟩, by simpa using hno, by simp, by simp, hS.below⟩
  replace hiff := hiff (by omega)
  clear hqn
  repeat' (first | ((with_reducible refine Ac ?_); first | ((first | refine Ai Aa ?_ | refine Al Aa ?_ | refine Af Aa ?_ | refine Av Aa Ab hS ?_ | refine Ba Aa Ab hS ?_ | refine Ag Aa ?_ | refine Ae Aa ?_ | refine Be Aa ?_ | refine Bl Aa ?_ | refine Bd Aa ?_ | refine Ak Aa ?_ | refine Aj Aa ?_ | refine Aw Aa (fun hc => ?_) (fun hc => ?_) | refine Bw Aa ?_ | refine Bh Aa ?_ | refine Bc Aa ?_ | refine Au Aa ?_ | refine Cp Aa ?_ | refine Ar Aa ?_) <;> refine Ad ?_) | ((first | refine Ao Aa Ab hS ?_ | refine As Aa Ab hS ?_); clear hS; intro b w hS; refine Ad ?_)) | ((fail_if_success (with_reducible refine Ac ?_)); first | go_step | go_step3 | rw [Exit.noGoto_normal] | rw [Exit.noGoto_ret] | rw [Exit.noGoto_exit]))
  go_loopw [8, 9] (fun u8 u9 wr => ∃ (k : Nat) (Lp : List Blk), k ≤ q ∧ u9 = .int .i64 (k : Int) ∧ OwL putC 129 70 ((putsD X).take k) u8 Lp ∧ St w0 wr (Lr ++ Lp)) (fun _ u9 _ => q - (intOf u9).toNat)
  case atStart => exact ⟨0, [], by omega, rfl, .inl ⟨rfl, by rw [List.take_zero], rfl⟩, hS⟩
  case round =>
    clear hS
    obtain ⟨k, Lp, hk1, rfl, hP, hS⟩ := hrel
    obtain ⟨pp, cp, hpp⟩ := hP.slice
    have hle2 : ((putsD X).take k).length = k := by rw [List.length_take]; omega
    rw [hle2] at hpp
    subst hpp
    by_cases hlt2 : k < q
    · rcases hR with ⟨_, h0, _⟩ | ⟨g, cg, spg, e1, g1, g2, g3, rfl⟩
      · rw [h0] at hsl; simp at hsl; omega
      · rw [hsl] at e1 g1 g3
        cases e1
        have hgat : ((sl.flatMap natC ++ spg).toArray)[k]? = some (.int .i64 (numR (celX X 0) (10 + 2 * k) : Int)) := by
          rw [natC_map, List.getElem?_toArray, List.getElem?_append_left (by rw [List.length_map]; omega), List.getElem?_map, hsn hlt2]; rfl
        simp only [List.cons_append, List.nil_append] at hS
        obtain ⟨c2, c3, c4⟩ := celX_cut hX (show 2 + k < n by omega) hcc
        have lC := celX_len hX (show 2 + k < n by omega)
        have hnk := hnx hlt2
        have hpo1 := hpo k (by omega)
        obtain ⟨C, hC⟩ : ∃ C, celX X (2 + k) = C := ⟨_, rfl⟩
        obtain ⟨N, hN2⟩ : ∃ N, numR (celX X 0) (10 + 2 * k) = N := ⟨_, rfl⟩
        rw [hC] at c3 lC hnk
        rw [hN2] at hnk hgat
        have hpb := pt_built (N : Int) lC
        have s1 : (hdV (N : Int) C).size = 129 := by rw [← csz_is, hdV_size, lC]
        have s2 : csz (bvs C) = 128 := by rw [Bg, lC]
        have e2 : (2 + (k : Int)).toNat = 2 + k := by omega
        have hsg : k < csz ((sl.flatMap natC ++ spg).toArray) := by rw [csz_is]; have := (Array.getElem?_eq_some_iff.1 hgat).1; omega
        repeat' (first | ((with_reducible refine Ac ?_); first | ((first | refine Ai Aa ?_ | refine Al Aa ?_ | refine Af Aa ?_ | refine Av Aa Ab hS ?_ | refine Ba Aa Ab hS ?_ | refine Ag Aa ?_ | refine Ae Aa ?_ | refine Be Aa ?_ | refine Bl Aa ?_ | refine Bd Aa ?_ | refine Ak Aa ?_ | refine Aj Aa ?_ | refine Aw Aa (fun hc => ?_) (fun hc => ?_) | refine Bw Aa ?_ | refine Bh Aa ?_ | refine Bc Aa ?_ | refine Au Aa ?_ | refine Cp Aa ?_ | refine Ar Aa ?_) <;> refine Ad ?_) | ((first | refine Ao Aa Ab hS ?_ | refine As Aa Ab hS ?_); clear hS; intro b w hS; refine Ad ?_)) | ((fail_if_success (with_reducible refine Ac ?_)); first | go_step | go_step3 | rw [Exit.noGoto_normal] | rw [Exit.noGoto_ret] | rw [Exit.noGoto_exit]))
        refine Bv 12 (by kernel_rfl) (by kernel_rfl) ?_
        dsimp only [List.take, List.drop]
        iterate 12 (first | (refine Dc (fun _ => rfl) ?_; simp only [Act.put, List.setIfInBounds_toArray, List.set_cons_zero, List.set_cons_succ]) | (refine Cw (by rfl) (fun _ => rfl) _ (fun w => r_alloc (a := ⟨#[], []⟩) rfl (by infer_instance)) ?_; simp only [Act.put, List.setIfInBounds_toArray, List.set_cons_zero, List.set_cons_succ]) | (refine Cr rfl (fun _ => rfl) (fun K hK => ?_); apply Exists.intro; apply Exists.intro; apply Exists.intro; apply Exists.intro; refine ⟨fun pB w' hw' hF => ?_, hK _ _ ?_⟩; (focus (exact Cf (by rfl) (by rfl) (by infer_instance) (by rfl) (by repeat (first | exact (fun _ h => absurd h List.not_mem_nil) | refine List.forall_mem_cons.2 ⟨by first | rfl | (simp only [Value.cells]; first | rfl | omega), ?_⟩)) (by (try conv => lhs; simp only [List.flatMap_cons, List.flatMap_nil, Value.cells, List.append_nil, List.cons_append, List.nil_append]); first | done | rfl) (by decide) (by decide))); clear hK K; simp only [Act.put, List.setIfInBounds_toArray, List.set_cons_zero, List.set_cons_succ]) | (refine Dd (fun _ => rfl) (fun K hK => ?_); apply Exists.intro; refine ⟨fun pB w' hw' hF => ?_, hK _ _ ?_⟩; (focus (have hZ := (Ab).call hS hw'; first | exact (Cn (r_built (by rfl) (by rfl) hpb)) | exact q_move | exact Dh | exact q_load1 Ab hZ (hv := by first | rfl | exact Bi | (rw [Array.getElem?_toList]; first | (rw [e2]; exact c3) | exact c3 | exact hgat)) | exact q_load1F (by first | exact ((hZ).far hb).1) (hv := by first | rfl | exact Bi | (rw [Array.getElem?_toList]; first | (rw [e2]; exact c3) | exact c3 | exact hgat)) | exact q_loadR Ab hZ (hv := by first | exact Bo _ _ (by (try simp only [Bn, Bg, Bm, List.length_append, List.length_set, zs_len, List.length_take, List.length_drop, List.length_cons, List.length_nil]); first | done | rfl | omega) | (first | (rw [e2]; exact c3) | exact c3 | exact hgat) | rfl) | exact q_loadRF (by first | exact ((hZ).far hb).1) (hv := by first | exact Bo _ _ (by (try simp only [Bn, Bg, Bm, List.length_append, List.length_set, zs_len, List.length_take, List.length_drop, List.length_cons, List.length_nil]); first | done | rfl | omega) | (first | (rw [e2]; exact c3) | exact c3 | exact hgat) | rfl) | exact Ci | exact Cb | exact q_len | exact q_cap | exact Cy | exact q_add | exact q_sub | exact q_mul | exact q_quo | exact q_rem | exact q_cmp_t | exact q_cmp_f | exact De | exact Cx | exact Df | exact Cv | exact Ch | exact Di (hv' := by first | rfl | exact Bi | (rw [Array.getElem?_toList]; first | (rw [e2]; exact c3) | exact c3 | exact hgat)) | exact Dg | exact Cm | exact Co | exact Bt | exact Cl | exact q_conv | exact q_pick | exact q_not | exact Db | exact Ct | exact Cc | exact Dk | exact Dl | exact Cs)); clear hK K; simp only [Act.put, List.setIfInBounds_toArray, List.set_cons_zero, List.set_cons_succ]))
        refine wpM_nil ?_
        intro pB w hcq hfq hnq
        replace hS := (Ab).news hS hcq _ (by first | decide | simp) hfq hnq
        first | simp only [List.map_nil, List.nil_append] at hS | simp only [List.map_cons, List.map_nil, List.cons_append, List.nil_append] at hS
        clear hcq hfq hnq
        try dsimp only
        replace hS := Ab.perm hS (List.Perm.cons _ (List.perm_append_comm (l₁ := [_]) (l₂ := Lp)))
        refine s_appL (f := putC) (x0 := ((N : Int), C)) Aa Ab hS hP (by rfl) (by rfl) (by rfl) (by rfl) (by infer_instance) (fun a ha => putC_len (hpo1 a ha).1) (putC_len lC) putC_one (by rw [hle2]; unfold maxLen; omega) ?_
        clear hS hP
        intro sv2 Lr2 w2 hP hS
        rw [← hnk] at hP
        replace hS := Ab.perm hS (List.perm_append_comm (l₁ := Lr2) (l₂ := [_]))
        obtain ⟨p2, c5, hpv2⟩ := hP.slice
        subst hpv2
        refine Ad ?_
        repeat' (first | ((with_reducible refine Ac ?_); first | ((first | refine Ai Aa ?_ | refine Al Aa ?_ | refine Af Aa ?_ | refine Av Aa Ab hS ?_ | refine Ba Aa Ab hS ?_ | refine Ag Aa ?_ | refine Ae Aa ?_ | refine Be Aa ?_ | refine Bl Aa ?_ | refine Bd Aa ?_ | refine Ak Aa ?_ | refine Aj Aa ?_ | refine Aw Aa (fun hc => ?_) (fun hc => ?_) | refine Bw Aa ?_ | refine Bh Aa ?_ | refine Bc Aa ?_ | refine Au Aa ?_ | refine Cp Aa ?_ | refine Ar Aa ?_) <;> refine Ad ?_) | ((first | refine Ao Aa Ab hS ?_ | refine As Aa Ab hS ?_); clear hS; intro b w hS; refine Ad ?_)) | ((fail_if_success (with_reducible refine Ac ?_)); first | go_step | go_step3 | rw [Exit.noGoto_normal] | rw [Exit.noGoto_ret] | rw [Exit.noGoto_exit]))
        go_roundw
        case rel => exact ⟨k + 1, Lr2, by omega, by push_cast; rfl, hP, hS⟩
        case measure => first | (simp [intOf]; done) | (simp [intOf]; omega)
    · obtain rfl : k = q := by omega
      have htk : (putsD X).take k = putsD X := List.take_of_length_le (by omega)
      have hok := hpo k (by omega)
      rw [htk] at hP hok
      obtain ⟨P, hPP⟩ : ∃ P, putsD X = P := ⟨_, rfl⟩
      obtain ⟨cn, hcn⟩ : ∃ x, cntR (celX X 0) = x := ⟨_, rfl⟩
      rw [hPP] at hP hok hpl hiff
      rw [hcn] at hiff ht8
      clear hnx hpo hR htk hsn
      repeat' (first | ((with_reducible refine Ac ?_); first | ((first | refine Ai Aa ?_ | refine Al Aa ?_ | refine Af Aa ?_ | refine Av Aa Ab hS ?_ | refine Bs Aa (by first | exact ((hS).far hb).1) ?_ | refine Ba Aa Ab hS ?_ | refine Da Aa (by first | exact ((hS).far hb).1) ?_ | refine Ag Aa ?_ | refine Ae Aa ?_ | refine Be Aa ?_ | refine Bl Aa ?_ | refine Bd Aa ?_ | refine Ak Aa ?_ | refine Aj Aa ?_ | refine Aw Aa (fun hc => ?_) (fun hc => ?_) | refine Bw Aa ?_ | refine Bh Aa ?_ | refine Bc Aa ?_ | refine Au Aa ?_ | refine Cp Aa ?_ | refine Ar Aa ?_) <;> refine Ad ?_) | ((first | refine Ao Aa Ab hS ?_ | refine As Aa Ab hS ?_); clear hS; intro b w hS; refine Ad ?_) | (refine Ce Aa Ab hS (ht8 _ _ (hb0 _ (hS.far hb).1)) ?_; clear hS; intro w hS; refine Ad ?_)) | ((fail_if_success (with_reducible refine Ac ?_)); first | go_step | go_step3 | rw [Exit.noGoto_normal] | rw [Exit.noGoto_ret] | rw [Exit.noGoto_exit]))
      have hpt : PutsAt _ (.slice pp k cp) P := OwL.puts Ab hP hok hS (fun x hx => List.mem_append_right _ hx)
      by_cases hgood : 0 ≤ cn ∧ soundP P
      · have lE := encL_len key cn hok hgood.2.2.2
        have hen := fun w h1 h2 => refEnc_good key hk cn hgood.1 P hgood.2 kv (.slice pp k cp) w h1 h2
        rw [hpl] at hen lE
        replace hiff : DecOk key X n ↔ encL key cn P = X.take (128 * (k + 2)) := ⟨fun h => (hiff.1 h).2, fun h => hiff.2 ⟨hgood, h⟩⟩
        obtain ⟨E, hE⟩ : ∃ E, encL key cn P = E := ⟨_, rfl⟩
        rw [hE] at hen lE hiff
        clear hE hgood
        refine s_call Aa (by rfl) (by rfl) (by rfl) (by rfl) (by rfl) (by infer_instance) (hen _ (hkv.below hS.below) hpt) ?_
        rintro e w1 ⟨gy, cy, spy, rfl, m4, m5, m6, m7, m8, hB⟩
        refine ⟨_, rfl, ?_⟩
        refine Ad ?_
        replace hS := Ab.new hS hB m7 m8
        clear m7 m8 hB hpt hen
        repeat' (first | ((with_reducible refine Ac ?_); first | ((first | refine Ai Aa ?_ | refine Al Aa ?_ | refine Af Aa ?_ | refine Av Aa Ab hS ?_ | refine Ba Aa Ab hS ?_ | refine Ag Aa ?_ | refine Ae Aa ?_ | refine Be Aa ?_ | refine Bl Aa ?_ | refine Bd Aa ?_ | refine Ak Aa ?_ | refine Aj Aa ?_ | refine Aw Aa (fun hc => ?_) (fun hc => ?_) | refine Bw Aa ?_ | refine Bh Aa ?_ | refine Bc Aa ?_ | refine Au Aa ?_ | refine Cp Aa ?_ | refine Ar Aa ?_) <;> refine Ad ?_) | ((first | refine Ao Aa Ab hS ?_ | refine As Aa Ab hS ?_); clear hS; intro b w hS; refine Ad ?_)) | ((fail_if_success (with_reducible refine Ac ?_)); first | go_step | go_step3 | rw [Exit.noGoto_normal] | rw [Exit.noGoto_ret] | rw [Exit.noGoto_exit]))
        go_loopw [14] (fun u14 wr => ∃ j : Nat, j ≤ k + 2 ∧ u14 = .int .i64 (j : Int) ∧ E.take (128 * j) = X.take (128 * j) ∧ St w0 wr ((gy, (E.map bv ++ spy).toArray, 30) :: (Lr ++ Lp))) (fun u14 _ => k + 2 - (intOf u14).toNat)
        case atStart => exact ⟨0, by omega, rfl, rfl, hS⟩
        case round =>
          clear hS
          obtain ⟨j, hj, rfl, htj, hS⟩ := hrel
          by_cases hlt : j < k + 2
          · obtain ⟨x1, x2, x3⟩ := celX_cut (o := 0) (i := j) lE (by omega) (own_cells (sp := spy))
            rw [Nat.zero_add] at x1 x2
            obtain ⟨y1, y2, y3⟩ := celX_cut hX (show j < n by omega) hcc
            have lC := celX_len lE (show j < k + 2 by omega)
            have lD := celX_len hX (show j < n by omega)
            have ta := celX_next E j
            have tb := celX_next X j
            have hno : ¬ celX E j = celX X j → ¬ DecOk key X n := fun h e => h (by rw [hiff.1 e, celX_take hlt])
            obtain ⟨C, hC⟩ : ∃ C, celX E j = C := ⟨_, rfl⟩
            obtain ⟨D, hD⟩ : ∃ C, celX X j = C := ⟨_, rfl⟩
            rw [hC] at x2 ta hno lC
            rw [hD] at y2 tb hno lD
            by_cases he : C = D
            · have hq : (!(C == D)) = false := by simp [he]
              repeat' (first | ((with_reducible refine Ac ?_); first | ((first | refine Ai Aa ?_ | refine Al Aa ?_ | refine Af Aa ?_ | refine Av Aa Ab hS ?_ | refine Ba Aa Ab hS ?_ | refine Ag Aa ?_ | refine Ae Aa ?_ | refine Be Aa ?_ | refine Bl Aa ?_ | refine Bd Aa ?_ | refine Ak Aa ?_ | refine Aj Aa ?_ | refine Aw Aa (fun hc => ?_) (fun hc => ?_) | refine Bw Aa ?_ | refine Bh Aa ?_ | refine Bc Aa ?_ | refine Au Aa ?_ | refine Cp Aa ?_ | refine Ar Aa ?_) <;> refine Ad ?_) | ((first | refine Ao Aa Ab hS ?_ | refine As Aa Ab hS ?_); clear hS; intro b w hS; refine Ad ?_)) | ((fail_if_success (with_reducible refine Ac ?_)); first | go_step | go_step3 | rw [Exit.noGoto_normal] | rw [Exit.noGoto_ret] | rw [Exit.noGoto_exit]))
              refine Bv 9 (by kernel_rfl) (by kernel_rfl) ?_
              dsimp only [List.take, List.drop]
              iterate 9 (first | (refine Dc (fun _ => rfl) ?_; simp only [Act.put, List.setIfInBounds_toArray, List.set_cons_zero, List.set_cons_succ]) | (refine Cw (by rfl) (fun _ => rfl) _ (fun w => r_alloc (a := ⟨#[], []⟩) rfl (by infer_instance)) ?_; simp only [Act.put, List.setIfInBounds_toArray, List.set_cons_zero, List.set_cons_succ]) | (refine Cr rfl (fun _ => rfl) (fun K hK => ?_); apply Exists.intro; apply Exists.intro; apply Exists.intro; apply Exists.intro; refine ⟨fun pB w' hw' hF => ?_, hK _ _ ?_⟩; (focus (exact Cf (by rfl) (by rfl) (by infer_instance) (by rfl) (by repeat (first | exact (fun _ h => absurd h List.not_mem_nil) | refine List.forall_mem_cons.2 ⟨by first | rfl | (simp only [Value.cells]; first | rfl | omega), ?_⟩)) (by (try conv => lhs; simp only [List.flatMap_cons, List.flatMap_nil, Value.cells, List.append_nil, List.cons_append, List.nil_append]); first | done | rfl) (by decide) (by decide))); clear hK K; simp only [Act.put, List.setIfInBounds_toArray, List.set_cons_zero, List.set_cons_succ]) | (refine Dd (fun _ => rfl) (fun K hK => ?_); apply Exists.intro; refine ⟨fun pB w' hw' hF => ?_, hK _ _ ?_⟩; (focus (have hZ := (Ab).call hS hw'; first | exact (Cn (r_neCel (by rfl) (by rfl) (by rfl) (by kernel_rfl) (by kernel_rfl) lC lD hq)) | exact q_move | exact Dh | exact q_load1 Ab hZ (hv := by first | rfl | exact Bi | (rw [Array.getElem?_toList]; first | exact x2 | exact y2)) | exact q_load1F (by first | exact ((hZ).far hb).1) (hv := by first | rfl | exact Bi | (rw [Array.getElem?_toList]; first | exact x2 | exact y2)) | exact q_loadR Ab hZ (hv := by first | exact Bo _ _ (by (try simp only [Bn, Bg, Bm, List.length_append, List.length_set, zs_len, List.length_take, List.length_drop, List.length_cons, List.length_nil]); first | done | rfl | omega) | (first | exact x2 | exact y2) | rfl) | exact q_loadRF (by first | exact ((hZ).far hb).1) (hv := by first | exact Bo _ _ (by (try simp only [Bn, Bg, Bm, List.length_append, List.length_set, zs_len, List.length_take, List.length_drop, List.length_cons, List.length_nil]); first | done | rfl | omega) | (first | exact x2 | exact y2) | rfl) | exact Ci | exact Cb | exact q_len | exact q_cap | exact Cy | exact q_add | exact q_sub | exact q_mul | exact q_quo | exact q_rem | exact q_cmp_t | exact q_cmp_f | exact De | exact Cx | exact Df | exact Cv | exact Ch | exact Di (hv' := by first | rfl | exact Bi | (rw [Array.getElem?_toList]; first | exact x2 | exact y2)) | exact Dg | exact Cm | exact Co | exact Bt | exact Cl | exact q_conv | exact q_pick | exact q_not | exact Db | exact Ct | exact Cc | exact Dk | exact Dl | exact Cs)); clear hK K; simp only [Act.put, List.setIfInBounds_toArray, List.set_cons_zero, List.set_cons_succ]))
              refine wpM_nil ?_
              intro pB w hcq hfq hnq
              replace hS := (Ab).news hS hcq _ (by first | decide | simp) hfq hnq
              first | simp only [List.map_nil, List.nil_append] at hS | simp only [List.map_cons, List.map_nil, List.cons_append, List.nil_append] at hS
              clear hcq hfq hnq
              try dsimp only
              repeat' (first | ((with_reducible refine Ac ?_); first | ((first | refine Ai Aa ?_ | refine Al Aa ?_ | refine Af Aa ?_ | refine Av Aa Ab hS ?_ | refine Ba Aa Ab hS ?_ | refine Ag Aa ?_ | refine Ae Aa ?_ | refine Be Aa ?_ | refine Bl Aa ?_ | refine Bd Aa ?_ | refine Ak Aa ?_ | refine Aj Aa ?_ | refine Aw Aa (fun hc => ?_) (fun hc => ?_) | refine Bw Aa ?_ | refine Bh Aa ?_ | refine Bc Aa ?_ | refine Au Aa ?_ | refine Cp Aa ?_ | refine Ar Aa ?_) <;> refine Ad ?_) | ((first | refine Ao Aa Ab hS ?_ | refine As Aa Ab hS ?_); clear hS; intro b w hS; refine Ad ?_)) | ((fail_if_success (with_reducible refine Ac ?_)); first | go_step | go_step3 | rw [Exit.noGoto_normal] | rw [Exit.noGoto_ret] | rw [Exit.noGoto_exit]))
              go_roundw
              case rel => exact ⟨j + 1, by omega, by push_cast; rfl, by rw [ta, tb, htj, he], hS⟩
              case measure => first | (simp [intOf]; done) | (simp [intOf]; omega)
            · have hq : (!(C == D)) = true := by simp [he]
              have hnot := hno he
              repeat' (first | ((with_reducible refine Ac ?_); first | ((first | refine Ai Aa ?_ | refine Al Aa ?_ | refine Af Aa ?_ | refine Av Aa Ab hS ?_ | refine Ba Aa Ab hS ?_ | refine Ag Aa ?_ | refine Ae Aa ?_ | refine Be Aa ?_ | refine Bl Aa ?_ | refine Bd Aa ?_ | refine Ak Aa ?_ | refine Aj Aa ?_ | refine Aw Aa (fun hc => ?_) (fun hc => ?_) | refine Bw Aa ?_ | refine Bh Aa ?_ | refine Bc Aa ?_ | refine Au Aa ?_ | refine Cp Aa ?_ | refine Ar Aa ?_) <;> refine Ad ?_) | ((first | refine Ao Aa Ab hS ?_ | refine As Aa Ab hS ?_); clear hS; intro b w hS; refine Ad ?_)) | ((fail_if_success (with_reducible refine Ac ?_)); first | go_step | go_step3 | rw [Exit.noGoto_normal] | rw [Exit.noGoto_ret] | rw [Exit.noGoto_exit]))
              refine Bv 9 (by kernel_rfl) (by kernel_rfl) ?_
              dsimp only [List.take, List.drop]
              iterate 9 (first | (refine Dc (fun _ => rfl) ?_; simp only [Act.put, List.setIfInBounds_toArray, List.set_cons_zero, List.set_cons_succ]) | (refine Cw (by rfl) (fun _ => rfl) _ (fun w => r_alloc (a := ⟨#[], []⟩) rfl (by infer_instance)) ?_; simp only [Act.put, List.setIfInBounds_toArray, List.set_cons_zero, List.set_cons_succ]) | (refine Cr rfl (fun _ => rfl) (fun K hK => ?_); apply Exists.intro; apply Exists.intro; apply Exists.intro; apply Exists.intro; refine ⟨fun pB w' hw' hF => ?_, hK _ _ ?_⟩; (focus (exact Cf (by rfl) (by rfl) (by infer_instance) (by rfl) (by repeat (first | exact (fun _ h => absurd h List.not_mem_nil) | refine List.forall_mem_cons.2 ⟨by first | rfl | (simp only [Value.cells]; first | rfl | omega), ?_⟩)) (by (try conv => lhs; simp only [List.flatMap_cons, List.flatMap_nil, Value.cells, List.append_nil, List.cons_append, List.nil_append]); first | done | rfl) (by decide) (by decide))); clear hK K; simp only [Act.put, List.setIfInBounds_toArray, List.set_cons_zero, List.set_cons_succ]) | (refine Dd (fun _ => rfl) (fun K hK => ?_); apply Exists.intro; refine ⟨fun pB w' hw' hF => ?_, hK _ _ ?_⟩; (focus (have hZ := (Ab).call hS hw'; first | exact (Cn (r_neCel (by rfl) (by rfl) (by rfl) (by kernel_rfl) (by kernel_rfl) lC lD hq)) | exact q_move | exact Dh | exact q_load1 Ab hZ (hv := by first | rfl | exact Bi | (rw [Array.getElem?_toList]; first | exact x2 | exact y2)) | exact q_load1F (by first | exact ((hZ).far hb).1) (hv := by first | rfl | exact Bi | (rw [Array.getElem?_toList]; first | exact x2 | exact y2)) | exact q_loadR Ab hZ (hv := by first | exact Bo _ _ (by (try simp only [Bn, Bg, Bm, List.length_append, List.length_set, zs_len, List.length_take, List.length_drop, List.length_cons, List.length_nil]); first | done | rfl | omega) | (first | exact x2 | exact y2) | rfl) | exact q_loadRF (by first | exact ((hZ).far hb).1) (hv := by first | exact Bo _ _ (by (try simp only [Bn, Bg, Bm, List.length_append, List.length_set, zs_len, List.length_take, List.length_drop, List.length_cons, List.length_nil]); first | done | rfl | omega) | (first | exact x2 | exact y2) | rfl) | exact Ci | exact Cb | exact q_len | exact q_cap | exact Cy | exact q_add | exact q_sub | exact q_mul | exact q_quo | exact q_rem | exact q_cmp_t | exact q_cmp_f | exact De | exact Cx | exact Df | exact Cv | exact Ch | exact Di (hv' := by first | rfl | exact Bi | (rw [Array.getElem?_toList]; first | exact x2 | exact y2)) | exact Dg | exact Cm | exact Co | exact Bt | exact Cl | exact q_conv | exact q_pick | exact q_not | exact Db | exact Ct | exact Cc | exact Dk | exact Dl | exact Cs)); clear hK K; simp only [Act.put, List.setIfInBounds_toArray, List.set_cons_zero, List.set_cons_succ]))
              refine wpM_nil ?_
              intro pB w hcq hfq hnq
              replace hS := (Ab).news hS hcq _ (by first | decide | simp) hfq hnq
              first | simp only [List.map_nil, List.nil_append] at hS | simp only [List.map_cons, List.map_nil, List.cons_append, List.nil_append] at hS
              clear hcq hfq hnq
              try dsimp only
              repeat' (first | ((with_reducible refine Ac ?_); first | ((first | refine Ai Aa ?_ | refine Al Aa ?_ | refine Af Aa ?_ | refine Av Aa Ab hS ?_ | refine Ba Aa Ab hS ?_ | refine Ag Aa ?_ | refine Ae Aa ?_ | refine Be Aa ?_ | refine Bl Aa ?_ | refine Bd Aa ?_ | refine Ak Aa ?_ | refine Aj Aa ?_ | refine Aw Aa (fun hc => ?_) (fun hc => ?_) | refine Bw Aa ?_ | refine Bh Aa ?_ | refine Bc Aa ?_ | refine Au Aa ?_ | refine Cp Aa ?_ | refine Ar Aa ?_) <;> refine Ad ?_) | ((first | refine Ao Aa Ab hS ?_ | refine As Aa Ab hS ?_); clear hS; intro b w hS; refine Ad ?_)) | ((fail_if_success (with_reducible refine Ac ?_)); first | go_step | go_step3 | rw [Exit.noGoto_normal] | rw [Exit.noGoto_ret] | rw [Exit.noGoto_exit]))
              go_ret3
              exact ⟨false, 0, _, [], rfl, .inl ⟨rfl, rfl⟩, by simpa using hnot, by simp, by simp, hS.below⟩
          · obtain rfl : j = k + 2 := by omega
            have hok1 : DecOk key X n := hiff.2 (by rwa [List.take_of_length_le (by omega)] at htj)
            repeat' (first | ((with_reducible refine Ac ?_); first | ((first | refine Ai Aa ?_ | refine Al Aa ?_ | refine Af Aa ?_ | refine Av Aa Ab hS ?_ | refine Ba Aa Ab hS ?_ | refine Ag Aa ?_ | refine Ae Aa ?_ | refine Be Aa ?_ | refine Bl Aa ?_ | refine Bd Aa ?_ | refine Ak Aa ?_ | refine Aj Aa ?_ | refine Aw Aa (fun hc => ?_) (fun hc => ?_) | refine Bw Aa ?_ | refine Bh Aa ?_ | refine Bc Aa ?_ | refine Au Aa ?_ | refine Cp Aa ?_ | refine Ar Aa ?_) <;> refine Ad ?_) | ((first | refine Ao Aa Ab hS ?_ | refine As Aa Ab hS ?_); clear hS; intro b w hS; refine Ad ?_)) | ((fail_if_success (with_reducible refine Ac ?_)); first | go_step | go_step3 | rw [Exit.noGoto_normal] | rw [Exit.noGoto_ret] | rw [Exit.noGoto_exit]))
            go_ret3
            exact ⟨true, cn, _, P, rfl, hP.own hS (fun x hx => List.mem_cons_of_mem _ (List.mem_append_right _ hx)), by simpa using hok1, fun _ => ⟨hcn.symm, hPP.symm⟩, by simp, hS.below⟩
      · have hbad : cn < 0 ∨ ¬ soundP P := by
          by_cases h0 : 0 ≤ cn
          · exact .inr fun h => hgood ⟨h0, h⟩
          · exact .inl (Int.not_le.1 h0)
        have hnot : ¬ DecOk key X n := fun h => hgood (hiff.1 h).1
        have hen := fun w h1 => refEnc_bad cn P (by omega) hbad kv (.slice pp k cp) w h1
        repeat' (first | ((with_reducible refine Ac ?_); first | ((first | refine Ai Aa ?_ | refine Al Aa ?_ | refine Af Aa ?_ | refine Av Aa Ab hS ?_ | refine Ba Aa Ab hS ?_ | refine Ag Aa ?_ | refine Ae Aa ?_ | refine Be Aa ?_ | refine Bl Aa ?_ | refine Bd Aa ?_ | refine Ak Aa ?_ | refine Aj Aa ?_ | refine Aw Aa (fun hc => ?_) (fun hc => ?_) | refine Bw Aa ?_ | refine Bh Aa ?_ | refine Bc Aa ?_ | refine Au Aa ?_ | refine Cp Aa ?_ | refine Ar Aa ?_) <;> refine Ad ?_) | ((first | refine Ao Aa Ab hS ?_ | refine As Aa Ab hS ?_); clear hS; intro b w hS; refine Ad ?_) | (refine Ce Aa Ab hS (hen _ hpt) ?_; clear hS; intro w hS; refine Ad ?_)) | ((fail_if_success (with_reducible refine Ac ?_)); first | go_step | go_step3 | rw [Exit.noGoto_normal] | rw [Exit.noGoto_ret] | rw [Exit.noGoto_exit]))
        go_ret3
        exact ⟨false, 0, _, [], rfl, .inl ⟨rfl, rfl⟩, by simpa using hnot, by simp, by simp, hS.below⟩
end Go.Proofs.Ytcjncidahjneaaa

namespace Go.Proofs.Ytcjncidahjneaaa
open Go.ChangeShapes Go.WideShapes Go.ChangeAt Go.RowKit
attribute [local irreducible] wpList wpListIn Oper.quietAt wpM
/-- Texts as they lie. -/
def LsAt (w : World) (v : Value) (ls : List (List UInt8)) : Prop := ∃ (vs : List Value), (∀ (i : Nat) (x : List UInt8), ls[i]? = some x → ∃ sv, vs[i]? = some sv ∧ BytesAt w sv x) ∧ ∃ p c, v = .slice p ls.length c ∧ ls.length ≤ c ∧ (p = none → c = 0) ∧ (ls ≠ [] → ∃ b o cs t fr, p = some ⟨b, o, none⟩ ∧ blk w b = some (.cells cs t fr) ∧ ∀ (i : Nat) (sv : Value), i < ls.length → vs[i]? = some sv → cs[o + i]? = some sv)
/-- A sector that begins with a text. -/
def padC (x : List UInt8) : List UInt8 := x.take 128 ++ zs (128 - (x.take 128).length)
theorem padC_len (x : List UInt8) : (padC x).length = 128 := by unfold padC; rw [List.length_append, zs_len, List.length_take]; omega
theorem padC_ovw (x : List UInt8) : ovw (bvs (zs 128)) 0 (x.take 128) = bvs (padC x) := by
  unfold padC
  rw [ovw_bvs, List.take_zero, List.nil_append]
  congr 2
  unfold zs; rw [List.drop_replicate]
  congr 1
  omega
/-- Texts as sectors. -/
def padsL (ls : List (List UInt8)) : List UInt8 := ls.flatMap padC
theorem padsL_len : ∀ ls : List (List UInt8), (padsL ls).length = 128 * ls.length
  | [] => rfl
  | x :: l => by
    have ih := padsL_len l
    unfold padsL at ih ⊢
    rw [List.flatMap_cons, List.length_append, padC_len, ih, List.length_cons]; omega
theorem padsL_next {ls : List (List UInt8)} {k : Nat} {x : List UInt8} (h : ls[k]? = some x) : padsL (ls.take (k + 1)) = padsL (ls.take k) ++ padC x := by
  unfold padsL
  rw [List.take_add_one, h, List.flatMap_append]
  simp
theorem r_neBo {P : Program} {o : Oper} {a : Act} {w : World} {t t' : TypeId} {x y : Operand} {m n q : Bool} (hop : o.op = .binOp .neq t x y t') (hx : evO a x = some (.bool m)) (hy : evO a y = some (.bool n)) (ht : P.underlying t = some .bool) (hq : (!(m == n)) = q) : (execOp a.eval o).run P w = .ok (.value (.bool q)) w := by
  unfold execOp; rw [hop]; subst hq
  have h := run_equalIn_bool (P := P) w 9999 t m n ht
  simp [Bb hx, Bb hy, eqGuard, binOp, Op.equal, Op.maxDepth, h]
theorem Own.right {B : Nat} {H : World → List Blk → Prop} (hH : Own B H) {w : World} {A L : List Blk} (h : H w (A ++ L)) : H w L := by
  refine hH.sub h (fun _ hx => List.mem_append_right _ hx) ?_
  have := hH.nodup h
  rw [List.map_append] at this
  exact (List.nodup_append.1 this).2.1
theorem post_one {P : Program} {fn : Func} {p t1 : Nat} (hres : fn.results = #[.cell p t1]) [OneT P t1] {R : Ending → World → Prop} {a : Act} {w : World} {e : Exit} (he : e = .ret ∨ e = .normal)
    (g1 : Nat) (v1 : Value) (s1 : TypeId) (fr1 : Nat × Nat) (hp1 : a.tmps.getD p undef = .pointer (some ⟨g1, 0, none⟩)) (hd : a.defers = []) (hg1 : blk w g1 = some (.cells #[v1] s1 fr1)) (hR : R (.returned v1) w) :
    bodyPost P fn R e a w := by
  have h1 : (results fn a.tmps).run P w = .ok v1 w := by
    have hp1' : a.tmps[p]?.getD undef = .pointer (some ⟨g1, 0, none⟩) := by simpa using hp1
    simp [results, hres, hp1', asAddr, run_res_one hg1]
  rcases he with rfl | rfl
  · exact bodyPost_ret h1 hd hR
  · exact bodyPost_end h1 hd hR
theorem saysL_zero : saysL (zs 128) = [] := by decide +kernel
end Go.Proofs.Ytcjncidahjneaaa

namespace Go.Proofs.Ytcjncidahjneaaa
open Go.ChangeShapes Go.WideShapes Go.ChangeAt Go.RowKit
theorem flat_at {α : Type} {f : α → List Value} {n : Nat} (hn : 0 < n) (hf : ∀ a, (f a).length = n) : ∀ {l : List α} {i : Nat} {x : Value}, (l.flatMap f)[i]? = some x → ∃ a, l[i / n]? = some a ∧ (f a)[i % n]? = some x
  | [], i, x, h => by simp at h
  | a :: l, i, x, h => by
    rw [List.flatMap_cons] at h
    by_cases hi : i < n
    · rw [List.getElem?_append_left (by rw [hf]; exact hi)] at h
      exact ⟨a, by rw [Nat.div_eq_of_lt hi]; rfl, by rw [Nat.mod_eq_of_lt hi]; exact h⟩
    · rw [List.getElem?_append_right (by rw [hf]; omega), hf] at h
      obtain ⟨b, h1, h2⟩ := flat_at hn hf h
      have e1 : i / n = (i - n) / n + 1 := by
        rw [← Nat.add_div_right _ hn, Nat.sub_add_cancel (by omega)]
      have e2 : i % n = (i - n) % n := by
        conv => lhs; rw [← Nat.sub_add_cancel (show n ≤ i by omega)]
        rw [Nat.add_mod_right]
      exact ⟨b, by rw [e1]; simpa using h1, by rw [e2]; exact h2⟩
/-- A slice of structs that came in, its elements all opened alike. -/
theorem open_gen {P : Program} {H : Type} {enc : TypeId × Value → H} {w : World} {base : Nat} {sp : Nat → Bool} {held : Bool} {t e n : Nat} {v : Value} {d : DataW H} {p : List MemPlace} {α : Type} (z : α) (f : α → List Value)
    (ht : P.underlying t = some (.slice e)) (hc : P.cellsOf e = n) (hn : 0 < n) (hf : ∀ a, (f a).length = n) (hopen : ∀ fuel cs x, DataW.trod enc P w base sp held fuel e cs = some x → cs.length = n → ∃ a, cs = f a)
    (hv : ∃ a len cap, v = .slice a len cap) (hr : DataW.Trod enc P w base sp held t v d p) :
    ∃ l : List α, (∃ p c, v = .slice p l.length c ∧ l.length ≤ c ∧ (p = none → c = 0) ∧ (l ≠ [] → ∃ b o cs t fr, p = some ⟨b, o, none⟩ ∧ blk w b = some (.cells cs t fr) ∧ ∀ i x, (l.flatMap f)[i]? = some x → cs.toList[o + i]? = some x)) ∧ l.length ≤ maxLen := by
  obtain ⟨a0, len0, cap0, rfl⟩ := hv
  obtain ⟨fuel, hfu⟩ := hr
  rcases Go.Deep.open_slice ht hfu with ⟨hcs, _⟩ | ⟨a, len, cap, m, n2, D, Pl, hcs, _, hlc, hcm, hm, _, hx⟩
  · simp only [Value.cells, List.cons.injEq, Value.slice.injEq, and_true] at hcs
    obtain ⟨rfl, rfl, rfl⟩ := hcs
    exact ⟨[], ⟨none, 0, rfl, Nat.le_refl _, fun _ => rfl, fun h => absurd rfl h⟩, by simp⟩
  · simp only [Value.cells, List.cons.injEq, Value.slice.injEq, and_true] at hcs
    obtain ⟨rfl, rfl, rfl⟩ := hcs
    have hlm : len0 ≤ m := by rw [hm]; split <;> omega
    have key : ∀ i, i < len0 → ∃ x : α, ∀ j, j < n → w.cell? ((a.add (i * n)).add j) = (f x)[j]? := by
      intro i hi
      obtain ⟨cs', h1, h2⟩ := hx i (by omega)
      rw [hc] at h1
      have h3 := World.cells?_some h1
      obtain ⟨x, rfl⟩ := hopen _ _ _ h2 h3.2.1
      exact ⟨x, h3.2.2⟩
    refine ⟨(List.range len0).map fun i => if hi : i < len0 then (key i hi).choose else z, ⟨some a, cap0, by simp, by simp; omega, (fun h => by cases h), fun hne => ?_⟩, by simp; omega⟩
    have h0 : 0 < len0 := by
      rcases Nat.eq_zero_or_pos len0 with rfl | h
      · exact absurd rfl hne
      · exact h
    obtain ⟨x0, hk0⟩ := key 0 h0
    have hk1 := hk0 0 hn
    rw [Nat.zero_mul, show a.add 0 = a by simp [Addr.add], show a.add 0 = a by simp [Addr.add], List.getElem?_eq_getElem (by rw [hf]; exact hn)] at hk1
    obtain ⟨b, o, cs, t2, e2, rfl, hb, _⟩ := blk_of_cell hk1
    refine ⟨b, o, cs, t2, e2, rfl, hb, fun i x hi => ?_⟩
    obtain ⟨q, h1, h2⟩ := flat_at hn hf hi
    have hil : i / n < len0 := by have := (List.getElem?_eq_some_iff.1 h1).1; simpa using this
    have hq : q = (key (i / n) hil).choose := by
      simp [hil] at h1
      exact h1.symm
    have h3 := (key (i / n) hil).choose_spec (i % n) (Nat.mod_lt _ hn)
    rw [← hq, h2, add_addr, add_addr, cell_of_row w b _ cs t2 e2 hb] at h3
    rw [Array.getElem?_toList, ← h3]
    congr 1
    have := Nat.div_add_mod i n
    rw [Nat.mul_comm] at this
    omega
end Go.Proofs.Ytcjncidahjneaaa

namespace Go.Proofs.Ytcjncidahjneaaa
open Go.ChangeShapes Go.WideShapes Go.ChangeAt Go.RowKit
open Go.ChangeShapes Go.WideShapes Go.ChangeAt Go.RowKit
theorem trod_bytes8 {P : Program} {H : Type} {enc : TypeId × Value → H} {w : World} {base fuel : Nat} {sp : Nat → Bool} {held : Bool} {t e : Nat} {cs : List Value} {x : DataW H × List MemPlace}
    (ht : P.underlying t = some (.slice e)) (he : P.underlying e = some (.int .u8)) (hc : P.cellsOf e = 1) (hf : DataW.trod enc P w base sp held fuel t cs = some x) : ∃ v l, cs = [v] ∧ BytesAt w v l ∧ l.length ≤ maxLen := by
  have hv : ∃ a n c, cs = [.slice a n c] := by
    rcases Go.Deep.open_slice1 ht hc hf with ⟨hcs, _⟩ | ⟨a, len, cap, m, n2, V, D, Pl, hcs, _⟩
    · exact ⟨_, _, _, hcs⟩
    · exact ⟨_, _, _, hcs⟩
  obtain ⟨a, n, c, rfl⟩ := hv
  obtain ⟨l, h1, h2⟩ := open_bytes (v := .slice a n c) (d := x.1) (p := x.2) ht he hc ⟨_, _, _, rfl⟩ ⟨fuel, hf⟩
  exact ⟨_, l, rfl, h1, h2⟩
theorem trod_int1 {P : Program} {H : Type} {enc : TypeId × Value → H} {w : World} {base fuel : Nat} {sp : Nat → Bool} {held : Bool} {t : Nat} {k : IntKind} {cs : List Value} {x : DataW H × List MemPlace}
    (ht : P.underlying t = some (.int k)) (hf : DataW.trod enc P w base sp held fuel t cs = some x) : ∃ n, cs = [.int k n] ∧ (Lit.int k n).wf = true := by
  obtain ⟨n, h1, _, h3⟩ := DataW.trod_int ht hf
  exact ⟨n, h1, h3⟩
theorem four_parts {L : List Value} {a b c d : Value} (h : L.length = 4) (h0 : (L.drop 0).take 1 = [a]) (h1 : (L.drop 1).take 1 = [b]) (h2 : (L.drop 2).take 1 = [c]) (h3 : (L.drop 3).take 1 = [d]) : L = [a, b, c, d] := by
  match L, h with
  | [a', b', c', d'], _ => simp at h0 h1 h2 h3; simp [h0, h1, h2, h3]
end Go.Proofs.Ytcjncidahjneaaa

namespace Go.Proofs.Ytcjncidahjneaaa
open Go.ChangeShapes Go.WideShapes Go.ChangeAt Go.RowKit
/-- What a text's cell holds. -/
def TxtAt (w : World) : Type := { v : Value // ∃ l, BytesAt w v l ∧ l.length ≤ maxLen }
def cellsTx {w : World} (x : TxtAt w) : List Value := [x.1]
set_option maxRecDepth 100000
theorem cells_txt : Try.prog.cellsOf 22 = 1 := by kernel_rfl
theorem tx_at {w : World} : ∀ {l : List (TxtAt w)} {i : Nat} {x : TxtAt w}, l[i]? = some x → (l.flatMap cellsTx)[i]? = some x.1
  | [], i, x, h => by simp at h
  | y :: l, 0, x, h => by simp at h; subst h; simp [cellsTx]
  | y :: l, i + 1, x, h => by
    have ih := tx_at (l := l) (i := i) (x := x) (by simpa using h)
    rw [List.flatMap_cons]
    show ([y.1] ++ l.flatMap cellsTx)[i + 1]? = _
    rw [List.singleton_append, List.getElem?_cons_succ]
    exact ih
theorem open_txs {H : Type} {enc : TypeId × Value → H} {w : World} {base : Nat} {sp : Nat → Bool} {held : Bool} {v : Value} {d : DataW H} {p : List MemPlace}
    (hv : ∃ a len cap, v = .slice a len cap) (hr : DataW.Trod enc Try.prog w base sp held 56 v d p) : ∃ ls : List (List UInt8), LsAt w v ls ∧ ls.length ≤ maxLen := by
  obtain ⟨l, ⟨p, c, h1, h2, h3, h4⟩, hm⟩ := open_gen (z := (⟨.slice none 0 0, [], ⟨none, 0, rfl, Nat.le_refl _, fun _ => rfl, fun h => absurd rfl h⟩, by simp⟩ : TxtAt w)) cellsTx Try.underlying56 cells_txt (by omega) (fun _ => rfl) (fun _ _ _ hf _ => by
    obtain ⟨v1, l1, e1, hb, hm⟩ := trod_bytes8 Try.underlying22 Try.underlying5 (by kernel_rfl) hf
    exact ⟨⟨v1, l1, hb, hm⟩, e1⟩) hv hr
  have hlen : (l.map fun x => x.2.choose).length = l.length := by rw [List.length_map]
  refine ⟨l.map fun x => x.2.choose, ⟨l.map fun x => x.1, fun i x hi => ?_, p, c, by rw [hlen]; exact h1, by rw [hlen]; exact h2, h3, fun hne => ?_⟩, by rw [hlen]; exact hm⟩
  · rw [List.getElem?_map] at hi
    cases hy : l[i]? with
    | none => rw [hy] at hi; cases hi
    | some y =>
      rw [hy] at hi
      simp only [Option.map_some, Option.some.injEq] at hi
      exact ⟨y.1, by rw [List.getElem?_map, hy]; rfl, by rw [← hi]; exact y.2.choose_spec.1⟩
  · obtain ⟨b, o, cs, t, fr, h5, h6, h7⟩ := h4 (by intro e; exact hne (by rw [e]; rfl))
    refine ⟨b, o, cs, t, fr, h5, h6, fun i sv hi hs => ?_⟩
    rw [List.getElem?_map] at hs
    cases hy : l[i]? with
    | none => rw [hy] at hs; cases hs
    | some y =>
      rw [hy] at hs
      simp only [Option.map_some, Option.some.injEq] at hs
      have g1 := h7 _ _ (tx_at hy)
      rw [Array.getElem?_toList] at g1
      rw [← hs]; exact g1
end Go.Proofs.Ytcjncidahjneaaa
