/-
  The law WrapSpoilt: for every key, text, place and byte it answers true. No condition.
-/
import Derived.Test.YtknkkcbihaojhaaRows
import Derived.Test.YtknkkcbihaojhaaJD1

namespace Go.Proofs.Ytknkkcbihaojhaa
open Go.ChangeShapes Go.WideShapes Go.ChangeAt Go.RowKit
attribute [local irreducible] wpList wpListIn
attribute [local irreducible] xorL sboxL subB sealV openV
theorem or_one_ne8 (x b : UInt8) : x ^^^ (1 ||| b) ≠ x := by
  intro h
  have h2 : (1 ||| b : UInt8) = 0 := by
    have := congrArg (x ^^^ ·) h
    simp [← UInt8.xor_assoc] at this
  have h3 := congrArg UInt8.toNat h2
  rw [UInt8.toNat_or] at h3
  have h4 : (1 ||| b.toNat).testBit 0 = true := by rw [Nat.testBit_or]; simp
  have h5 : (UInt8.toNat 1) = 1 := rfl
  rw [h5] at h3
  rw [h3] at h4
  simp at h4
/-- A wrapped text with another byte isn't unwrapped to the same. -/
theorem spoilt_ne {key l : List UInt8} (h : key.length = 16 ∨ key.length = 32) (h8 : l.length % 8 = 0) (hl : 16 ≤ l.length) {k : Nat} {y : UInt8} (hk : k < (wrapV key l).length) (hy : y ≠ (wrapV key l).getD k 0) (ha : (unwrapX key ((wrapV key l).set k y)).1 = a6L) : (unwrapX key ((wrapV key l).set k y)).2 ≠ l := by
  intro e
  have hlen := wrapV_len h h8 (by omega)
  have h1 := wrap_unwrap h (by rw [List.length_set, hlen]; omega) (by rw [List.length_set, hlen]; omega) ha
  rw [e] at h1
  have h2 : (wrapV key l)[k]? = ((wrapV key l).set k y)[k]? := by rw [← h1]
  rw [List.getElem?_set_self hk, get_some hk] at h2
  exact hy (Option.some.inj h2).symm
set_option maxRecDepth 100000 in
set_option maxHeartbeats 16000000 in
theorem turned_any (key l : List UInt8) (at' : Int) (by' : UInt8) (v tv : Value) (w0 : World) (hv : BytesAt w0 v key) (ht : BytesAt w0 tv l) (hmk : key.length ≤ maxLen) (hml : l.length ≤ maxLen) :
    Calls Try.prog 26 #[v, tv, .int .i64 at', .int .u8 (by'.toNat : Int)] w0 fun e w' => e = .returned (.bool true) ∧ Below w0.heap.size w0 w' := by
  obtain ⟨tp, tc, rfl, htc⟩ := ht.slice
  obtain ⟨kp, kc, rfl, hkc⟩ := hv.slice
  have hS := St.start w0
  go_enter Try.func26, Try.ntmps26
  repeat' (first | ((with_reducible refine cons_list ?_); first | ((first | refine g_skip stp_list ?_ | refine g_move stp_list ?_ | refine g_assign stp_list ?_ | refine g_load1 stp_list own_st hS ?_ | refine g_loadR stp_list own_st hS ?_ | refine g_indexAddr stp_list ?_ | refine g_indexAddrA stp_list ?_ | refine g_len stp_list ?_ | refine g_cap stp_list ?_ | refine g_extract stp_list ?_ | refine g_add stp_list ?_ | refine g_sub stp_list ?_ | refine g_mul stp_list ?_ | refine g_quo stp_list ?_ | refine g_rem stp_list ?_ | refine g_cmp_t stp_list ?_ | refine g_cmp_f stp_list ?_ | refine g_cmp stp_list (fun hc => ?_) (fun hc => ?_) | refine g_neqNil stp_list ?_ | refine g_neqNil0 stp_list ?_ | refine g_eqlNil stp_list ?_ | refine g_eqlNil0 stp_list ?_ | refine g_fieldAddr stp_list ?_ | refine g_field1 stp_list ?_ | refine g_fieldR stp_list ?_ | refine g_eqlSlNil stp_list ?_ | refine g_neqSlNil stp_list ?_ | refine g_makeInterface stp_list ?_ | refine g_makeFunc stp_list ?_ | refine g_conv stp_list ?_ | refine g_pick stp_list ?_ | refine g_not stp_list ?_ | refine g_slice stp_list ?_ | refine g_sliceA stp_list ?_ | refine g_sliceNil stp_list ?_) <;> refine put_in ?_) | ((first | refine g_alloc stp_list own_st hS ?_ | refine g_box stp_list own_st hS ?_ | refine g_build0 stp_list own_st hS ?_ | refine g_build stp_list own_st hS ?_ | refine g_make stp_list own_st hS ?_); clear hS; intro b w hS; refine put_in ?_) | ((first | refine g_store1 stp_list own_st hS ?_ | refine g_storeR stp_list own_st hS ?_); clear hS; intro w hS; refine put_in ?_)) | ((fail_if_success (with_reducible refine cons_list ?_)); first | go_step | go_step3 | rw [Exit.noGoto_normal] | rw [Exit.noGoto_ret] | rw [Exit.noGoto_exit]))
  (refine g_callq stp_list own_st hS (alive7_any _) ?_; clear hS; intro w hS; refine put_in ?_)
  repeat' (first | ((with_reducible refine cons_list ?_); first | ((first | refine g_skip stp_list ?_ | refine g_move stp_list ?_ | refine g_assign stp_list ?_ | refine g_load1 stp_list own_st hS ?_ | refine g_loadR stp_list own_st hS ?_ | refine g_indexAddr stp_list ?_ | refine g_indexAddrA stp_list ?_ | refine g_len stp_list ?_ | refine g_cap stp_list ?_ | refine g_extract stp_list ?_ | refine g_add stp_list ?_ | refine g_sub stp_list ?_ | refine g_mul stp_list ?_ | refine g_quo stp_list ?_ | refine g_rem stp_list ?_ | refine g_cmp_t stp_list ?_ | refine g_cmp_f stp_list ?_ | refine g_cmp stp_list (fun hc => ?_) (fun hc => ?_) | refine g_neqNil stp_list ?_ | refine g_neqNil0 stp_list ?_ | refine g_eqlNil stp_list ?_ | refine g_eqlNil0 stp_list ?_ | refine g_fieldAddr stp_list ?_ | refine g_field1 stp_list ?_ | refine g_fieldR stp_list ?_ | refine g_eqlSlNil stp_list ?_ | refine g_neqSlNil stp_list ?_ | refine g_makeInterface stp_list ?_ | refine g_makeFunc stp_list ?_ | refine g_conv stp_list ?_ | refine g_pick stp_list ?_ | refine g_not stp_list ?_ | refine g_slice stp_list ?_ | refine g_sliceA stp_list ?_ | refine g_sliceNil stp_list ?_) <;> refine put_in ?_) | ((first | refine g_alloc stp_list own_st hS ?_ | refine g_box stp_list own_st hS ?_ | refine g_build0 stp_list own_st hS ?_ | refine g_build stp_list own_st hS ?_ | refine g_make stp_list own_st hS ?_); clear hS; intro b w hS; refine put_in ?_) | ((first | refine g_store1 stp_list own_st hS ?_ | refine g_storeR stp_list own_st hS ?_); clear hS; intro w hS; refine put_in ?_)) | ((fail_if_success (with_reducible refine cons_list ?_)); first | go_step | go_step3 | rw [Exit.noGoto_normal] | rw [Exit.noGoto_ret] | rw [Exit.noGoto_exit]))
  by_cases h : key.length = 16 ∨ key.length = 32
  · by_cases hf : l.length % 8 = 0 ∧ 16 ≤ l.length ∧ l.length ≤ 512
    · obtain ⟨n, hn⟩ : ∃ n, l.length = 8 * n := ⟨l.length / 8, by omega⟩
      refine s_call stp_list (by rfl) (by rfl) (by rfl) (by rfl) (by rfl) (by infer_instance) (wrap_good key l h n hn (by omega) _ _ _ (hv.below hS.below) (ht.below hS.below)) ?_
      rintro e w1 ⟨g, c, sp, rfl, h1, h2, h3, h4⟩
      refine ⟨_, rfl, ?_⟩
      refine put_in ?_
      replace hS := own_st.new hS h4 h2 h3
      have hwl : (wrapV key l).length = 8 * n + 8 := by rw [← hn]; exact wrapV_len h (by omega) (by omega)
      have ht' : BytesAt w0 (.slice tp (8 * n) tc) l := by rw [← hn]; exact ht
      rw [hn] at h1 ⊢
      obtain ⟨u, hu⟩ : ∃ u : Nat, (at' % 18446744073709551616).toNat = u := ⟨_, rfl⟩
      have hu2 : (u : Int) < 18446744073709551616 := by omega
      obtain ⟨k, hk⟩ : ∃ k : Nat, (u : Int) % ((8 * n + 8 : Nat) : Int) = (k : Int) := ⟨u % (8 * n + 8), by omega⟩
      have hkN : k < 8 * n + 8 := by
        have := Int.emod_lt_of_pos (u : Int) (show (0 : Int) < ((8 * n + 8 : Nat) : Int) by omega)
        omega
      have hkk : ((u : Int) % ((8 * n + 8 : Nat) : Int)).toNat = k := by omega
      have hcell : ((wrapV key l).map bv ++ sp).toArray[((u : Int) % ((8 * n + 8 : Nat) : Int)).toNat]? = some (.int .u8 (((wrapV key l).getD k 0).toNat : Int)) := by
        rw [hkk, ← Array.getElem?_toList]
        show ((wrapV key l).map bv ++ sp)[k]? = _
        rw [List.getElem?_append_left (by rw [List.length_map, hwl]; exact hkN), List.getElem?_map, get_some (by rw [hwl]; exact hkN)]
        rfl
      have hcs : 8 * n + 8 ≤ csz ((wrapV key l).map bv ++ sp).toArray := by
        rw [csz_list, List.length_append, List.length_map, hwl]; omega
      have hset : ((wrapV key l).map bv ++ sp).toArray.setIfInBounds ((u : Int) % ((8 * n + 8 : Nat) : Int)).toNat (.int .u8 (((wrapV key l).getD k 0 ^^^ (1 ||| by')).toNat : Int)) = (((wrapV key l).set k ((wrapV key l).getD k 0 ^^^ (1 ||| by'))).map bv ++ sp).toArray := by
        rw [hkk, List.setIfInBounds_toArray, List.set_append_left _ _ (by rw [List.length_map, hwl]; exact hkN), List.map_set]
        rfl
      obtain ⟨y, hy⟩ : ∃ y, (wrapV key l).getD k 0 ^^^ (1 ||| by') = y := ⟨_, rfl⟩
      have hyn : y ≠ (wrapV key l).getD k 0 := by rw [← hy]; exact or_one_ne8 _ _
      obtain ⟨CS, hCS⟩ : ∃ CS, ((wrapV key l).map bv ++ sp).toArray = CS := ⟨_, rfl⟩
      rw [hCS] at hS hcell hcs hset
      repeat' (first | ((with_reducible refine cons_list ?_); first | ((first | refine g_skip stp_list ?_ | refine g_move stp_list ?_ | refine g_assign stp_list ?_ | refine g_load1 stp_list own_st hS ?_ (hv := by first | rfl | exact bvs_getLA | (rw [Array.getElem?_toList]; exact hcell)) | refine g_loadR stp_list own_st hS ?_ (hv := by first | exact cut_whole _ _ (by (try simp only [csz_setc, csz_bvs, csz_list, List.length_append, List.length_set, zs_len, List.length_take, List.length_drop, List.length_cons, List.length_nil]); first | done | rfl | omega) | (exact hcell) | rfl) | refine g_indexAddr stp_list ?_ | refine g_indexAddrA stp_list ?_ | refine g_len stp_list ?_ | refine g_cap stp_list ?_ | refine g_extract stp_list ?_ | refine g_add stp_list ?_ | refine g_sub stp_list ?_ | refine g_mul stp_list ?_ | refine g_quo stp_list ?_ | refine g_rem stp_list ?_ | refine g_cmp_t stp_list ?_ | refine g_cmp_f stp_list ?_ | refine g_cmp stp_list (fun hc => ?_) (fun hc => ?_) | refine g_neqNil stp_list ?_ | refine g_neqNil0 stp_list ?_ | refine g_eqlNil stp_list ?_ | refine g_eqlNil0 stp_list ?_ | refine g_fieldAddr stp_list ?_ | refine g_field1 stp_list ?_ (hv' := by first | rfl | exact bvs_getLA | (rw [Array.getElem?_toList]; exact hcell)) | refine g_fieldR stp_list ?_ | refine g_eqlSlNil stp_list ?_ | refine g_neqSlNil stp_list ?_ | refine g_makeInterface stp_list ?_ | refine g_makeFunc stp_list ?_ | refine g_conv stp_list ?_ | refine g_pick stp_list ?_ | refine g_not stp_list ?_ | refine g_slice stp_list ?_ | refine g_sliceA stp_list ?_ | refine g_sliceNil stp_list ?_) <;> refine put_in ?_) | ((first | refine g_alloc stp_list own_st hS ?_ | refine g_box stp_list own_st hS ?_ | refine g_build0 stp_list own_st hS ?_ | refine g_build stp_list own_st hS ?_ | refine g_make stp_list own_st hS ?_); clear hS; intro b w hS; refine put_in ?_) | ((first | refine g_store1 stp_list own_st hS ?_ | refine g_storeR stp_list own_st hS ?_); clear hS; intro w hS; refine put_in ?_) | (refine Stp.go stp_list (by rfl) (by rfl) (r_convW (by rfl) (by rfl) (by infer_instance) (by infer_instance) hu) ?_; refine put_in ?_) | (refine Stp.go stp_list (by rfl) (by rfl) (r_or8 1 (by rfl) (by rfl) (by rfl) rfl) ?_; refine put_in ?_) | (refine Stp.go stp_list (by rfl) (by rfl) (r_xor8 (by rfl) (by rfl) (by rfl) rfl) ?_; refine put_in ?_)) | ((fail_if_success (with_reducible refine cons_list ?_)); first | go_step | go_step3 | rw [Exit.noGoto_normal] | rw [Exit.noGoto_ret] | rw [Exit.noGoto_exit]))
      rw [hy] at hset
      rw [hy, hset] at hS
      obtain ⟨l2, hl2⟩ : ∃ l2, (wrapV key l).set k y = l2 := ⟨_, rfl⟩
      have hlen2 : l2.length = 8 * n + 8 := by rw [← hl2, List.length_set, hwl]
      have hne : (unwrapX key l2).1 = a6L → (unwrapX key l2).2 ≠ l := by
        rw [← hl2]
        exact fun ha => spoilt_ne h (by omega) (by omega) (by rw [hwl]; exact hkN) hyn ha
      rw [hl2] at hS
      refine s_call stp_list (by rfl) (by rfl) (by rfl) (by rfl) (by rfl) (by infer_instance) (unwrap_good key l2 h n hlen2 (by omega) _ _ _ (hv.below hS.below) (bytesAt_mid (pre := []) (off := 0) (n := 8 * n + 8) (c := c) (hS.blk 0 rfl) rfl rfl hlen2 (by omega))) ?_
      intro e w2 hx
      unfold UnwrapOf at hx
      by_cases ha : (unwrapX key l2).1 = a6L
      · rw [if_pos ha] at hx
        obtain ⟨g2, c2, sp2, rfl, k1, k2, k3, k4⟩ := hx
        have hne2 := hne ha
        have hul : (unwrapX key l2).2.length = 8 * n := by
          have := (unwrapX_form h (l := l2) (by omega) (by omega)).2
          rw [hlen2] at this; omega
        obtain ⟨m, hm⟩ : ∃ m, (unwrapX key l2).2 = m := ⟨_, rfl⟩
        rw [hm] at k3 hne2 hul
        refine ⟨_, rfl, ?_⟩
        refine put_in ?_
        replace hS := own_st.new hS k4 k2 k3
        repeat' (first | ((with_reducible refine cons_list ?_); first | ((first | refine g_skip stp_list ?_ | refine g_move stp_list ?_ | refine g_assign stp_list ?_ | refine g_load1 stp_list own_st hS ?_ | refine g_loadR stp_list own_st hS ?_ | refine g_indexAddr stp_list ?_ | refine g_indexAddrA stp_list ?_ | refine g_len stp_list ?_ | refine g_cap stp_list ?_ | refine g_extract stp_list ?_ | refine g_add stp_list ?_ | refine g_sub stp_list ?_ | refine g_mul stp_list ?_ | refine g_quo stp_list ?_ | refine g_rem stp_list ?_ | refine g_cmp_t stp_list ?_ | refine g_cmp_f stp_list ?_ | refine g_cmp stp_list (fun hc => ?_) (fun hc => ?_) | refine g_neqNil stp_list ?_ | refine g_neqNil0 stp_list ?_ | refine g_eqlNil stp_list ?_ | refine g_eqlNil0 stp_list ?_ | refine g_fieldAddr stp_list ?_ | refine g_field1 stp_list ?_ | refine g_fieldR stp_list ?_ | refine g_eqlSlNil stp_list ?_ | refine g_neqSlNil stp_list ?_ | refine g_makeInterface stp_list ?_ | refine g_makeFunc stp_list ?_ | refine g_conv stp_list ?_ | refine g_pick stp_list ?_ | refine g_not stp_list ?_ | refine g_slice stp_list ?_ | refine g_sliceA stp_list ?_ | refine g_sliceNil stp_list ?_) <;> refine put_in ?_) | ((first | refine g_alloc stp_list own_st hS ?_ | refine g_box stp_list own_st hS ?_ | refine g_build0 stp_list own_st hS ?_ | refine g_build stp_list own_st hS ?_ | refine g_make stp_list own_st hS ?_); clear hS; intro b w hS; refine put_in ?_) | ((first | refine g_store1 stp_list own_st hS ?_ | refine g_storeR stp_list own_st hS ?_); clear hS; intro w hS; refine put_in ?_)) | ((fail_if_success (with_reducible refine cons_list ?_)); first | go_step | go_step3 | rw [Exit.noGoto_normal] | rw [Exit.noGoto_ret] | rw [Exit.noGoto_exit]))
        refine s_call stp_list (by rfl) (by rfl) (by rfl) (by rfl) (by rfl) (by infer_instance) (is_nil _ _) ?_
        rintro e w' ⟨rfl, rfl⟩
        refine ⟨_, rfl, ?_⟩
        rw [show ((0 : Int) == 4) = false from rfl]
        refine put_in ?_
        repeat' (first | ((with_reducible refine cons_list ?_); first | ((first | refine g_skip stp_list ?_ | refine g_move stp_list ?_ | refine g_assign stp_list ?_ | refine g_load1 stp_list own_st hS ?_ | refine g_loadR stp_list own_st hS ?_ | refine g_indexAddr stp_list ?_ | refine g_indexAddrA stp_list ?_ | refine g_len stp_list ?_ | refine g_cap stp_list ?_ | refine g_extract stp_list ?_ | refine g_add stp_list ?_ | refine g_sub stp_list ?_ | refine g_mul stp_list ?_ | refine g_quo stp_list ?_ | refine g_rem stp_list ?_ | refine g_cmp_t stp_list ?_ | refine g_cmp_f stp_list ?_ | refine g_cmp stp_list (fun hc => ?_) (fun hc => ?_) | refine g_neqNil stp_list ?_ | refine g_neqNil0 stp_list ?_ | refine g_eqlNil stp_list ?_ | refine g_eqlNil0 stp_list ?_ | refine g_fieldAddr stp_list ?_ | refine g_field1 stp_list ?_ | refine g_fieldR stp_list ?_ | refine g_eqlSlNil stp_list ?_ | refine g_neqSlNil stp_list ?_ | refine g_makeInterface stp_list ?_ | refine g_makeFunc stp_list ?_ | refine g_conv stp_list ?_ | refine g_pick stp_list ?_ | refine g_not stp_list ?_ | refine g_slice stp_list ?_ | refine g_sliceA stp_list ?_ | refine g_sliceNil stp_list ?_) <;> refine put_in ?_) | ((first | refine g_alloc stp_list own_st hS ?_ | refine g_box stp_list own_st hS ?_ | refine g_build0 stp_list own_st hS ?_ | refine g_build stp_list own_st hS ?_ | refine g_make stp_list own_st hS ?_); clear hS; intro b w hS; refine put_in ?_) | ((first | refine g_store1 stp_list own_st hS ?_ | refine g_storeR stp_list own_st hS ?_); clear hS; intro w hS; refine put_in ?_)) | ((fail_if_success (with_reducible refine cons_list ?_)); first | go_step | go_step3 | rw [Exit.noGoto_normal] | rw [Exit.noGoto_ret] | rw [Exit.noGoto_exit]))
        refine s_call stp_list (by rfl) (by rfl) (by rfl) (by rfl) (by rfl) (by infer_instance) (same_any m l _ _ _ (bytesAt_mid (pre := []) (off := 0) (n := 8 * n) (c := c2) (hS.blk 0 rfl) rfl rfl hul (by omega)) (ht'.below hS.below)) ?_
        rintro e w' ⟨rfl, rfl⟩
        refine ⟨_, rfl, ?_⟩
        refine put_in ?_
        rw [show (m == l) = false from by rw [beq_eq_false_iff_ne]; exact hne2]
        repeat' (first | ((with_reducible refine cons_list ?_); first | ((first | refine g_skip stp_list ?_ | refine g_move stp_list ?_ | refine g_assign stp_list ?_ | refine g_load1 stp_list own_st hS ?_ | refine g_loadR stp_list own_st hS ?_ | refine g_indexAddr stp_list ?_ | refine g_indexAddrA stp_list ?_ | refine g_len stp_list ?_ | refine g_cap stp_list ?_ | refine g_extract stp_list ?_ | refine g_add stp_list ?_ | refine g_sub stp_list ?_ | refine g_mul stp_list ?_ | refine g_quo stp_list ?_ | refine g_rem stp_list ?_ | refine g_cmp_t stp_list ?_ | refine g_cmp_f stp_list ?_ | refine g_cmp stp_list (fun hc => ?_) (fun hc => ?_) | refine g_neqNil stp_list ?_ | refine g_neqNil0 stp_list ?_ | refine g_eqlNil stp_list ?_ | refine g_eqlNil0 stp_list ?_ | refine g_fieldAddr stp_list ?_ | refine g_field1 stp_list ?_ | refine g_fieldR stp_list ?_ | refine g_eqlSlNil stp_list ?_ | refine g_neqSlNil stp_list ?_ | refine g_makeInterface stp_list ?_ | refine g_makeFunc stp_list ?_ | refine g_conv stp_list ?_ | refine g_pick stp_list ?_ | refine g_not stp_list ?_ | refine g_slice stp_list ?_ | refine g_sliceA stp_list ?_ | refine g_sliceNil stp_list ?_) <;> refine put_in ?_) | ((first | refine g_alloc stp_list own_st hS ?_ | refine g_box stp_list own_st hS ?_ | refine g_build0 stp_list own_st hS ?_ | refine g_build stp_list own_st hS ?_ | refine g_make stp_list own_st hS ?_); clear hS; intro b w hS; refine put_in ?_) | ((first | refine g_store1 stp_list own_st hS ?_ | refine g_storeR stp_list own_st hS ?_); clear hS; intro w hS; refine put_in ?_)) | ((fail_if_success (with_reducible refine cons_list ?_)); first | go_step | go_step3 | rw [Exit.noGoto_normal] | rw [Exit.noGoto_ret] | rw [Exit.noGoto_exit]))
        go_ret
        exact ⟨rfl, hS.below⟩
      · rw [if_neg ha] at hx
        obtain ⟨rfl, hb⟩ := hx
        refine ⟨_, rfl, ?_⟩
        refine put_in ?_
        replace hS := hS.call hb
        clear hne
        as_aux_lemma =>
          repeat' (first | ((with_reducible refine cons_list ?_); first | ((first | refine g_skip stp_list ?_ | refine g_move stp_list ?_ | refine g_assign stp_list ?_ | refine g_load1 stp_list own_st hS ?_ | refine g_loadR stp_list own_st hS ?_ | refine g_indexAddr stp_list ?_ | refine g_indexAddrA stp_list ?_ | refine g_len stp_list ?_ | refine g_cap stp_list ?_ | refine g_extract stp_list ?_ | refine g_add stp_list ?_ | refine g_sub stp_list ?_ | refine g_mul stp_list ?_ | refine g_quo stp_list ?_ | refine g_rem stp_list ?_ | refine g_cmp_t stp_list ?_ | refine g_cmp_f stp_list ?_ | refine g_cmp stp_list (fun hc => ?_) (fun hc => ?_) | refine g_neqNil stp_list ?_ | refine g_neqNil0 stp_list ?_ | refine g_eqlNil stp_list ?_ | refine g_eqlNil0 stp_list ?_ | refine g_fieldAddr stp_list ?_ | refine g_field1 stp_list ?_ | refine g_fieldR stp_list ?_ | refine g_eqlSlNil stp_list ?_ | refine g_neqSlNil stp_list ?_ | refine g_makeInterface stp_list ?_ | refine g_makeFunc stp_list ?_ | refine g_conv stp_list ?_ | refine g_pick stp_list ?_ | refine g_not stp_list ?_ | refine g_slice stp_list ?_ | refine g_sliceA stp_list ?_ | refine g_sliceNil stp_list ?_) <;> refine put_in ?_) | ((first | refine g_alloc stp_list own_st hS ?_ | refine g_box stp_list own_st hS ?_ | refine g_build0 stp_list own_st hS ?_ | refine g_build stp_list own_st hS ?_ | refine g_make stp_list own_st hS ?_); clear hS; intro b w hS; refine put_in ?_) | ((first | refine g_store1 stp_list own_st hS ?_ | refine g_storeR stp_list own_st hS ?_); clear hS; intro w hS; refine put_in ?_)) | ((fail_if_success (with_reducible refine cons_list ?_)); first | go_step | go_step3 | rw [Exit.noGoto_normal] | rw [Exit.noGoto_ret] | rw [Exit.noGoto_exit]))
          refine s_call stp_list (by rfl) (by rfl) (by rfl) (by rfl) (by rfl) (by infer_instance) (is_err 4 4 rfl _) ?_
          rintro e w' ⟨rfl, rfl⟩
          refine ⟨_, rfl, ?_⟩
          rw [show ((4 : Int) == 4) = true from rfl]
          refine put_in ?_
          repeat' (first | ((with_reducible refine cons_list ?_); first | ((first | refine g_skip stp_list ?_ | refine g_move stp_list ?_ | refine g_assign stp_list ?_ | refine g_load1 stp_list own_st hS ?_ | refine g_loadR stp_list own_st hS ?_ | refine g_indexAddr stp_list ?_ | refine g_indexAddrA stp_list ?_ | refine g_len stp_list ?_ | refine g_cap stp_list ?_ | refine g_extract stp_list ?_ | refine g_add stp_list ?_ | refine g_sub stp_list ?_ | refine g_mul stp_list ?_ | refine g_quo stp_list ?_ | refine g_rem stp_list ?_ | refine g_cmp_t stp_list ?_ | refine g_cmp_f stp_list ?_ | refine g_cmp stp_list (fun hc => ?_) (fun hc => ?_) | refine g_neqNil stp_list ?_ | refine g_neqNil0 stp_list ?_ | refine g_eqlNil stp_list ?_ | refine g_eqlNil0 stp_list ?_ | refine g_fieldAddr stp_list ?_ | refine g_field1 stp_list ?_ | refine g_fieldR stp_list ?_ | refine g_eqlSlNil stp_list ?_ | refine g_neqSlNil stp_list ?_ | refine g_makeInterface stp_list ?_ | refine g_makeFunc stp_list ?_ | refine g_conv stp_list ?_ | refine g_pick stp_list ?_ | refine g_not stp_list ?_ | refine g_slice stp_list ?_ | refine g_sliceA stp_list ?_ | refine g_sliceNil stp_list ?_) <;> refine put_in ?_) | ((first | refine g_alloc stp_list own_st hS ?_ | refine g_box stp_list own_st hS ?_ | refine g_build0 stp_list own_st hS ?_ | refine g_build stp_list own_st hS ?_ | refine g_make stp_list own_st hS ?_); clear hS; intro b w hS; refine put_in ?_) | ((first | refine g_store1 stp_list own_st hS ?_ | refine g_storeR stp_list own_st hS ?_); clear hS; intro w hS; refine put_in ?_)) | ((fail_if_success (with_reducible refine cons_list ?_)); first | go_step | go_step3 | rw [Exit.noGoto_normal] | rw [Exit.noGoto_ret] | rw [Exit.noGoto_exit]))
          go_ret
          exact ⟨rfl, hS.below⟩
    · refine s_call stp_list (by rfl) (by rfl) (by rfl) (by rfl) (by rfl) (by infer_instance) (wrap_form key h _ tp l.length tc hml hf _ (hv.below hS.below)) ?_
      rintro e w1 ⟨rfl, hb⟩
      refine ⟨_, rfl, ?_⟩
      refine put_in ?_
      replace hS := hS.call hb
      repeat' (first | ((with_reducible refine cons_list ?_); first | ((first | refine g_skip stp_list ?_ | refine g_move stp_list ?_ | refine g_assign stp_list ?_ | refine g_load1 stp_list own_st hS ?_ | refine g_loadR stp_list own_st hS ?_ | refine g_indexAddr stp_list ?_ | refine g_indexAddrA stp_list ?_ | refine g_len stp_list ?_ | refine g_cap stp_list ?_ | refine g_extract stp_list ?_ | refine g_add stp_list ?_ | refine g_sub stp_list ?_ | refine g_mul stp_list ?_ | refine g_quo stp_list ?_ | refine g_rem stp_list ?_ | refine g_cmp_t stp_list ?_ | refine g_cmp_f stp_list ?_ | refine g_cmp stp_list (fun hc => ?_) (fun hc => ?_) | refine g_neqNil stp_list ?_ | refine g_neqNil0 stp_list ?_ | refine g_eqlNil stp_list ?_ | refine g_eqlNil0 stp_list ?_ | refine g_fieldAddr stp_list ?_ | refine g_field1 stp_list ?_ | refine g_fieldR stp_list ?_ | refine g_eqlSlNil stp_list ?_ | refine g_neqSlNil stp_list ?_ | refine g_makeInterface stp_list ?_ | refine g_makeFunc stp_list ?_ | refine g_conv stp_list ?_ | refine g_pick stp_list ?_ | refine g_not stp_list ?_ | refine g_slice stp_list ?_ | refine g_sliceA stp_list ?_ | refine g_sliceNil stp_list ?_) <;> refine put_in ?_) | ((first | refine g_alloc stp_list own_st hS ?_ | refine g_box stp_list own_st hS ?_ | refine g_build0 stp_list own_st hS ?_ | refine g_build stp_list own_st hS ?_ | refine g_make stp_list own_st hS ?_); clear hS; intro b w hS; refine put_in ?_) | ((first | refine g_store1 stp_list own_st hS ?_ | refine g_storeR stp_list own_st hS ?_); clear hS; intro w hS; refine put_in ?_)) | ((fail_if_success (with_reducible refine cons_list ?_)); first | go_step | go_step3 | rw [Exit.noGoto_normal] | rw [Exit.noGoto_ret] | rw [Exit.noGoto_exit]))
      go_ret
      exact ⟨rfl, hS.below⟩
  · refine s_call stp_list (by rfl) (by rfl) (by rfl) (by rfl) (by rfl) (by infer_instance) (wrap_key key h hmk _ _ _ (hv.below hS.below)) ?_
    rintro e w1 ⟨rfl, hb⟩
    refine ⟨_, rfl, ?_⟩
    refine put_in ?_
    replace hS := hS.call hb
    repeat' (first | ((with_reducible refine cons_list ?_); first | ((first | refine g_skip stp_list ?_ | refine g_move stp_list ?_ | refine g_assign stp_list ?_ | refine g_load1 stp_list own_st hS ?_ | refine g_loadR stp_list own_st hS ?_ | refine g_indexAddr stp_list ?_ | refine g_indexAddrA stp_list ?_ | refine g_len stp_list ?_ | refine g_cap stp_list ?_ | refine g_extract stp_list ?_ | refine g_add stp_list ?_ | refine g_sub stp_list ?_ | refine g_mul stp_list ?_ | refine g_quo stp_list ?_ | refine g_rem stp_list ?_ | refine g_cmp_t stp_list ?_ | refine g_cmp_f stp_list ?_ | refine g_cmp stp_list (fun hc => ?_) (fun hc => ?_) | refine g_neqNil stp_list ?_ | refine g_neqNil0 stp_list ?_ | refine g_eqlNil stp_list ?_ | refine g_eqlNil0 stp_list ?_ | refine g_fieldAddr stp_list ?_ | refine g_field1 stp_list ?_ | refine g_fieldR stp_list ?_ | refine g_eqlSlNil stp_list ?_ | refine g_neqSlNil stp_list ?_ | refine g_makeInterface stp_list ?_ | refine g_makeFunc stp_list ?_ | refine g_conv stp_list ?_ | refine g_pick stp_list ?_ | refine g_not stp_list ?_ | refine g_slice stp_list ?_ | refine g_sliceA stp_list ?_ | refine g_sliceNil stp_list ?_) <;> refine put_in ?_) | ((first | refine g_alloc stp_list own_st hS ?_ | refine g_box stp_list own_st hS ?_ | refine g_build0 stp_list own_st hS ?_ | refine g_build stp_list own_st hS ?_ | refine g_make stp_list own_st hS ?_); clear hS; intro b w hS; refine put_in ?_) | ((first | refine g_store1 stp_list own_st hS ?_ | refine g_storeR stp_list own_st hS ?_); clear hS; intro w hS; refine put_in ?_)) | ((fail_if_success (with_reducible refine cons_list ?_)); first | go_step | go_step3 | rw [Exit.noGoto_normal] | rw [Exit.noGoto_ret] | rw [Exit.noGoto_exit]))
    go_ret
    exact ⟨rfl, hS.below⟩
end Go.Proofs.Ytknkkcbihaojhaa

namespace Go.Proofs.Ytknkkcbihaojhaa
open Go.ChangeShapes Go.WideShapes Go.ChangeAt Go.RowKit
attribute [local irreducible] wpList wpListIn
set_option maxRecDepth 100000 in
set_option maxHeartbeats 1000000 in
theorem wrapSpoilt_any (key l : List UInt8) (at' : Int) (by' : UInt8) (kv tv : Value) (w : World) (hv : BytesAt w kv key) (ht : BytesAt w tv l) (hm : key.length ≤ maxLen) (hn : l.length ≤ maxLen) :
    Calls Try.prog 8 #[.agg #[kv, tv, .int .i64 at', .int .u8 (by'.toNat : Int)]] w fun e w' => e = .returned (.bool true) ∧ Below w.heap.size w w' := by
  obtain ⟨p, c, rfl, hc⟩ := hv.slice
  obtain ⟨tp, tc, rfl, htc⟩ := ht.slice
  have hS := St.start w
  go_enter Try.func8, Try.ntmps8
  repeat' (first | ((with_reducible refine cons_list ?_); first | ((first | refine g_skip stp_list ?_ | refine g_move stp_list ?_ | refine g_assign stp_list ?_ | refine g_load1 stp_list own_st hS ?_ | refine g_loadR stp_list own_st hS ?_ | refine g_indexAddr stp_list ?_ | refine g_indexAddrA stp_list ?_ | refine g_len stp_list ?_ | refine g_cap stp_list ?_ | refine g_extract stp_list ?_ | refine g_add stp_list ?_ | refine g_sub stp_list ?_ | refine g_mul stp_list ?_ | refine g_quo stp_list ?_ | refine g_rem stp_list ?_ | refine g_cmp_t stp_list ?_ | refine g_cmp_f stp_list ?_ | refine g_cmp stp_list (fun hc => ?_) (fun hc => ?_) | refine g_neqNil stp_list ?_ | refine g_neqNil0 stp_list ?_ | refine g_eqlNil stp_list ?_ | refine g_eqlNil0 stp_list ?_ | refine g_fieldAddr stp_list ?_ | refine g_field1 stp_list ?_ | refine g_fieldR stp_list ?_ | refine g_eqlSlNil stp_list ?_ | refine g_neqSlNil stp_list ?_ | refine g_makeInterface stp_list ?_ | refine g_makeFunc stp_list ?_ | refine g_conv stp_list ?_ | refine g_pick stp_list ?_ | refine g_not stp_list ?_ | refine g_slice stp_list ?_ | refine g_sliceA stp_list ?_ | refine g_sliceNil stp_list ?_) <;> refine put_in ?_) | ((first | refine g_alloc stp_list own_st hS ?_ | refine g_box stp_list own_st hS ?_ | refine g_build0 stp_list own_st hS ?_ | refine g_build stp_list own_st hS ?_ | refine g_make stp_list own_st hS ?_); clear hS; intro b w hS; refine put_in ?_) | ((first | refine g_store1 stp_list own_st hS ?_ | refine g_storeR stp_list own_st hS ?_); clear hS; intro w hS; refine put_in ?_)) | ((fail_if_success (with_reducible refine cons_list ?_)); first | go_step | go_step3 | rw [Exit.noGoto_normal] | rw [Exit.noGoto_ret] | rw [Exit.noGoto_exit]))
  (refine g_callq stp_list own_st hS (turned_any key l at' by' _ _ _ (hv.below hS.below) (ht.below hS.below) hm hn) ?_; clear hS; intro w hS; refine put_in ?_)
  repeat' (first | ((with_reducible refine cons_list ?_); first | ((first | refine g_skip stp_list ?_ | refine g_move stp_list ?_ | refine g_assign stp_list ?_ | refine g_load1 stp_list own_st hS ?_ | refine g_loadR stp_list own_st hS ?_ | refine g_indexAddr stp_list ?_ | refine g_indexAddrA stp_list ?_ | refine g_len stp_list ?_ | refine g_cap stp_list ?_ | refine g_extract stp_list ?_ | refine g_add stp_list ?_ | refine g_sub stp_list ?_ | refine g_mul stp_list ?_ | refine g_quo stp_list ?_ | refine g_rem stp_list ?_ | refine g_cmp_t stp_list ?_ | refine g_cmp_f stp_list ?_ | refine g_cmp stp_list (fun hc => ?_) (fun hc => ?_) | refine g_neqNil stp_list ?_ | refine g_neqNil0 stp_list ?_ | refine g_eqlNil stp_list ?_ | refine g_eqlNil0 stp_list ?_ | refine g_fieldAddr stp_list ?_ | refine g_field1 stp_list ?_ | refine g_fieldR stp_list ?_ | refine g_eqlSlNil stp_list ?_ | refine g_neqSlNil stp_list ?_ | refine g_makeInterface stp_list ?_ | refine g_makeFunc stp_list ?_ | refine g_conv stp_list ?_ | refine g_pick stp_list ?_ | refine g_not stp_list ?_ | refine g_slice stp_list ?_ | refine g_sliceA stp_list ?_ | refine g_sliceNil stp_list ?_) <;> refine put_in ?_) | ((first | refine g_alloc stp_list own_st hS ?_ | refine g_box stp_list own_st hS ?_ | refine g_build0 stp_list own_st hS ?_ | refine g_build stp_list own_st hS ?_ | refine g_make stp_list own_st hS ?_); clear hS; intro b w hS; refine put_in ?_) | ((first | refine g_store1 stp_list own_st hS ?_ | refine g_storeR stp_list own_st hS ?_); clear hS; intro w hS; refine put_in ?_)) | ((fail_if_success (with_reducible refine cons_list ?_)); first | go_step | go_step3 | rw [Exit.noGoto_normal] | rw [Exit.noGoto_ret] | rw [Exit.noGoto_exit]))
  go_ret
  exact ⟨rfl, hS.below⟩
end Go.Proofs.Ytknkkcbihaojhaa

namespace Go.Proofs.Ytknkkcbihaojhaa
open Go.ChangeShapes Go.WideShapes Go.ChangeAt Go.RowKit
open Go.ChangeShapes Go.WideShapes Go.ChangeAt Go.RowKit
theorem trod_bytes8 {P : Program} {H : Type} {enc : TypeId × Value → H} {w : World} {base fuel : Nat} {sp : Nat → Bool} {held : Bool} {t e : Nat} {cs : List Value} {x : DataW H × List MemPlace}
    (ht : P.underlying t = some (.slice e)) (he : P.underlying e = some (.int .u8)) (hc : P.cellsOf e = 1) (hf : DataW.trod enc P w base sp held fuel t cs = some x) : ∃ v l, cs = [v] ∧ BytesAt w v l ∧ l.length ≤ maxLen := by
  have hv : ∃ a n c, cs = [.slice a n c] := by
    rcases Go.Deep.open_slice1 ht hc hf with ⟨hcs, _⟩ | ⟨a, len, cap, m, n2, V, D, Pl, hcs, _⟩
    · exact ⟨_, _, _, hcs⟩
    · exact ⟨_, _, _, hcs⟩
  obtain ⟨a, n, c, rfl⟩ := hv
  obtain ⟨l, h1, h2⟩ := open_bytes (v := .slice a n c) (d := x.1) (p := x.2) ht he hc ⟨_, _, _, rfl⟩ ⟨fuel, hf⟩
  exact ⟨_, l, rfl, h1, h2⟩
theorem trod_int1 {P : Program} {H : Type} {enc : TypeId × Value → H} {w : World} {base fuel : Nat} {sp : Nat → Bool} {held : Bool} {t : Nat} {k : IntKind} {cs : List Value} {x : DataW H × List MemPlace}
    (ht : P.underlying t = some (.int k)) (hf : DataW.trod enc P w base sp held fuel t cs = some x) : ∃ n, cs = [.int k n] ∧ (Lit.int k n).wf = true := by
  obtain ⟨n, h1, _, h3⟩ := DataW.trod_int ht hf
  exact ⟨n, h1, h3⟩
theorem four_parts {L : List Value} {a b c d : Value} (h : L.length = 4) (h0 : (L.drop 0).take 1 = [a]) (h1 : (L.drop 1).take 1 = [b]) (h2 : (L.drop 2).take 1 = [c]) (h3 : (L.drop 3).take 1 = [d]) : L = [a, b, c, d] := by
  match L, h with
  | [a', b', c', d'], _ => simp at h0 h1 h2 h3; simp [h0, h1, h2, h3]
end Go.Proofs.Ytknkkcbihaojhaa

namespace Go.Proofs.Ytknkkcbihaojhaa
open Go.ChangeShapes Go.WideShapes Go.ChangeAt Go.RowKit
open Go.ChangeShapes Go.WideShapes Go.ChangeAt Go.RowKit
set_option maxRecDepth 100000
theorem cells_turned7 : Try.prog.cellsOf 46 = 4 := by kernel_rfl
theorem open_turned7 {H : Type} {enc : TypeId × Value → H} {w W : World} {r : Reach} {b0 base : Nat} {sp : Nat → Bool} {held : Bool} {v : Value} {d : DataW H} {p : List MemPlace}
    (hv : Value.okWide Try.prog W r b0 46 v) (ht : DataW.Trod enc Try.prog w base sp held 46 v d p) :
    ∃ kv tv : Value, ∃ key l : List UInt8, ∃ at' : Int, ∃ b : UInt8, BytesAt w kv key ∧ BytesAt w tv l ∧ key.length ≤ maxLen ∧ l.length ≤ maxLen ∧ v = .agg #[kv, tv, .int .i64 at', .int .u8 (b.toNat : Int)] := by
  have hu := Try.underlying46
  obtain ⟨cs, rfl, hsz⟩ := okWide_struct hu hv
  rw [cells_turned7] at hsz
  obtain ⟨fuel, hf⟩ := ht
  obtain ⟨xs, n, rfl, hx, hl, hxl, hi⟩ := DataW.trod_struct hu hf
  have hxl5 : xs.length = 4 := hxl
  have g (i : Nat) (h : i < 4) : xs[i]? = some xs[i] := List.getElem?_eq_getElem (by omega)
  have h0 := (hi 0 _ rfl).trans (g 0 (by omega))
  have h1 := (hi 1 _ rfl).trans (g 1 (by omega))
  have h2 := (hi 2 _ rfl).trans (g 2 (by omega))
  have h3 := (hi 3 _ rfl).trans (g 3 (by omega))
  obtain ⟨kv, key, e0, B0, M0⟩ := trod_bytes8 Try.underlying22 Try.underlying5 (by kernel_rfl) h0
  obtain ⟨tv, l, e1, B1, M1⟩ := trod_bytes8 Try.underlying22 Try.underlying5 (by kernel_rfl) h1
  obtain ⟨q, e2, _⟩ := trod_int1 Try.underlying3 h2
  obtain ⟨y, e3, wf⟩ := trod_int1 Try.underlying5 h3
  obtain ⟨b, rfl⟩ := byte_of wf
  refine ⟨kv, tv, key, l, q, b, B0, B1, M0, M1, ?_⟩
  have hL := four_parts (L := cs.toList) (by simpa using hsz) e0 e1 e2 e3
  rw [← Array.toArray_toList (xs := cs), hL]
end Go.Proofs.Ytknkkcbihaojhaa

namespace Go.Proofs.Ytknkkcbihaojhaa
open Go.ChangeShapes Go.WideShapes Go.ChangeAt Go.RowKit

theorem Try.own : ownKnob Try.prog.godebug = none := by kernel_rfl
theorem Try.laidOut : laidOutB Try.prog = true := by kernel_rfl

set_option maxRecDepth 100000 in
theorem wrapSpoilt_lifted (os : Os) (started : os.Started) (H : Type) (enc : TypeId × Value → H) :
    ReturnsInHanded {} Try.checked os 8 .any (Rows.wrapSpoiltSpec.pre6 enc Try.prog Try.f8 Rows.wrapSpoiltRow.domain false) (Rows.wrapSpoiltSpec.post enc Try.prog Try.f8 false true false false) := by
  refine law_lift (C := Try.checked) Try.own started (by kernel_rfl) Try.func8
    (ChangeSpec.witness6 (enc := enc) (C := Try.checked) false ⟨#[], #[.agg #[.slice none 0 0, .slice none 0 0, .int .i64 0, .int .u8 0]], []⟩ 8 (by kernel_rfl) (by kernel_rfl) (by kernel_rfl) (by kernel_rfl))
    rfl (by kernel_rfl) Try.underlying4 (fun ds h => by match ds, h with | [a], _ => exact ⟨rfl, rfl, rfl⟩) Try.laidOut (by kernel_rfl) ?_
  intro W base args ds p hval0 hA0 hlt hsz0
  have hval : ∀ (j : Nat) t v, Try.f8.params[j]? = some t → args[j]? = some v → Value.okWide Try.prog W .any base t v := hval0
  have hA : DataW.TrodAll enc Try.prog W 0 (fun _ => true) true Try.f8.params.toList args.toList ds p := hA0
  have hsz : (DataW.weightsEach Try.prog Try.f8.params.toList ds).all (· ≤ reachBytes) = true := hsz0
  rw [Try.params8] at hA hval hsz
  obtain ⟨v0, d0, rfl, rfl, h0⟩ := trodAll_one hA

  obtain ⟨kv, tv, key, l, at7, b, hB, hT, hM, hN, rfl⟩ := open_turned7 (hval 0 _ v0 rfl rfl) h0
  exact wrapSpoilt_any key l at7 b kv tv W hB hT hM hN

theorem wrapSpoilt_holds : Rows.WrapSpoiltSaid :=
  OpenClaim.holds_of_wide 8 Try.f8 rfl rfl rfl rfl rfl rfl rfl ⟨rfl, rfl, rfl, rfl, rfl⟩ rfl rfl rfl rfl rfl (by kernel_rfl) Try.func8 (by kernel_rfl)
    (of_decide_eq_true (by kernel_rfl)) (by unfold Func.isWrapper; rw [if_neg (by decide +kernel)]; exact ⟨rfl, rfl⟩)
    (fun os started H enc _ => wrapSpoilt_lifted os started H enc)

end Go.Proofs.Ytknkkcbihaojhaa
