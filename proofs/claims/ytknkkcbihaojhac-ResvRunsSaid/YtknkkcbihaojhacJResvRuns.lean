/-
  The law ResvRuns: for all operations it answers true. No condition.
-/
import Derived.Test.YtknkkcbihaojhacRows
import Derived.Test.YtknkkcbihaojhacJG0

namespace Go.Proofs.Ytknkkcbihaojhac
open Go.ChangeShapes Go.WideShapes Go.ChangeAt Go.RowKit
attribute [local irreducible] wpList wpListIn Oper.quietAt wpM
set_option maxRecDepth 100000 in
set_option maxHeartbeats 8000000 in
theorem resvRuns_any (l : List Ro) (v : Value) (w0 : World) (hv : OpsAt w0 v l) (hm : l.length ≤ 9223372036854775807) :
    Calls Try.prog 4 #[v] w0 fun e w' => e = .returned (.bool true) ∧ Below w0.heap.size w0 w' := by
  obtain ⟨p, c, rfl, hc⟩ := hv.slice
  have hS := St.start w0
  by_cases h200 : l.length ≤ 200
  · go_enter Try.func4, Try.ntmps4
    repeat' (first | ((with_reducible refine cons_list ?_); first | ((first | refine g_skip stp_list ?_ | refine g_move stp_list ?_ | refine g_assign stp_list ?_ | refine g_load1 stp_list own_st hS ?_ | refine g_loadR stp_list own_st hS ?_ | refine g_indexAddr stp_list ?_ | refine g_indexAddrA stp_list ?_ | refine g_len stp_list ?_ | refine g_cap stp_list ?_ | refine g_extract stp_list ?_ | refine g_add stp_list ?_ | refine g_sub stp_list ?_ | refine g_mul stp_list ?_ | refine g_quo stp_list ?_ | refine g_rem stp_list ?_ | refine g_cmp_t stp_list ?_ | refine g_cmp_f stp_list ?_ | refine g_cmp stp_list (fun hc => ?_) (fun hc => ?_) | refine g_neqNil stp_list ?_ | refine g_neqNil0 stp_list ?_ | refine g_eqlNil stp_list ?_ | refine g_eqlNil0 stp_list ?_ | refine g_fieldAddr stp_list ?_ | refine g_field1 stp_list ?_ | refine g_fieldR stp_list ?_ | refine g_eqlSlNil stp_list ?_ | refine g_neqSlNil stp_list ?_ | refine g_makeInterface stp_list ?_ | refine g_makeFunc stp_list ?_ | refine g_conv stp_list ?_ | refine g_pick stp_list ?_ | refine g_not stp_list ?_ | refine g_slice stp_list ?_ | refine g_sliceA stp_list ?_ | refine g_sliceNil stp_list ?_ | refine g_nilCheck stp_list ?_ | refine g_builtS stp_list ?_ | refine g_builtA stp_list ?_) <;> refine put_in ?_) | ((first | refine g_alloc stp_list own_st hS ?_ | refine g_box stp_list own_st hS ?_ | refine g_build0 stp_list own_st hS ?_ | refine g_build stp_list own_st hS ?_ | refine g_make stp_list own_st hS ?_); clear hS; intro b w hS; refine put_in ?_) | ((first | refine g_store1 stp_list own_st hS ?_ | refine g_storeR stp_list own_st hS ?_ | refine g_storeRO stp_list own_st hS ?_); clear hS; intro w hS; refine put_in ?_) | (refine g_callq stp_list own_st hS (alive_any _) ?_; clear hS; intro w hS; refine put_in ?_)) | ((fail_if_success (with_reducible refine cons_list ?_)); first | go_step | go_step3 | rw [Exit.noGoto_normal] | rw [Exit.noGoto_ret] | rw [Exit.noGoto_exit]))
    go_loopw [17] (fun u17 wr => ∃ (k : Nat) (rl : List Rg) (h t g : Int) (s : Bool) (sv : Value) (Lr : List Blk), k ≤ l.length ∧ u17 = .int .i64 (k : Int) ∧ goodR ⟨rl, h, t, s, g⟩ ∧ g ≤ k ∧ RgL rl sv Lr ∧ St w0 wr ((b, #[sv, .int .i64 h, .int .i64 t, .bool s, .int .i64 g], 24) :: Lr)) (fun u17 _ => l.length - (intOf u17).toNat)
    case atStart => exact ⟨0, [], -1, 0, 0, false, .slice none 0 0, [], by omega, rfl, good_nobody, by omega, .inl ⟨rfl, rfl, rfl⟩, hS⟩
    case round =>
      obtain ⟨k, rl, h, t, g, s, sv, Lr, hk, rfl, hG, hg, hRg, hS⟩ := hrel
      obtain ⟨p1, c1, rfl⟩ := hRg.slice
      by_cases hlt : k < l.length
      · obtain ⟨rb, o, cs, ty, fr, rfl, hb, hcell⟩ := hv.open_ (by omega)
        have q1 := csz_op hcell hlt
        have hcut := cut_op hcell hlt
        have h4 : rl.length ≤ 4 := hG.1.1
        have hg0 : 0 ≤ g := hG.1.2
        obtain ⟨o1, ho1⟩ : ∃ o1, l.getD k roZ = o1 := ⟨_, rfl⟩
        rw [ho1] at hcut
        obtain ⟨op, who, key, new, typ, st⟩ := o1
        dsimp only at hcut
        obtain ⟨y, er, hy⟩ : ∃ y er, doR ⟨rl, h, t, s, g⟩ ⟨op, who, key, new, typ, st⟩ = (y, er) := ⟨_, _, rfl⟩
        repeat' (first | ((with_reducible refine cons_list ?_); first | ((first | refine g_skip stp_list ?_ | refine g_move stp_list ?_ | refine g_assign stp_list ?_ | refine g_load1 stp_list own_st hS ?_ (hv := by first | rfl | exact bvs_getLA | (rw [Array.getElem?_toList]; exact hcut)) | refine g_load1F stp_list (by first | exact ((hS).far hb).1) ?_ (hv := by first | rfl | exact bvs_getLA | (rw [Array.getElem?_toList]; exact hcut)) | refine g_loadR stp_list own_st hS ?_ (hv := by first | exact cut_whole _ _ (by (try simp only [csz_setc, csz_bvs, csz_list, List.length_append, List.length_set, zs_len, List.length_take, List.length_drop, List.length_cons, List.length_nil]); first | done | rfl | omega) | (exact hcut) | rfl) | refine g_loadRF stp_list (by first | exact ((hS).far hb).1) ?_ (hv := by first | exact cut_whole _ _ (by (try simp only [csz_setc, csz_bvs, csz_list, List.length_append, List.length_set, zs_len, List.length_take, List.length_drop, List.length_cons, List.length_nil]); first | done | rfl | omega) | (exact hcut) | rfl) | refine g_indexAddr stp_list ?_ | refine g_indexAddrA stp_list ?_ | refine g_len stp_list ?_ | refine g_cap stp_list ?_ | refine g_extract stp_list ?_ | refine g_add stp_list ?_ | refine g_sub stp_list ?_ | refine g_mul stp_list ?_ | refine g_quo stp_list ?_ | refine g_rem stp_list ?_ | refine g_cmp_t stp_list ?_ | refine g_cmp_f stp_list ?_ | refine g_cmp stp_list (fun hc => ?_) (fun hc => ?_) | refine g_neqNil stp_list ?_ | refine g_neqNil0 stp_list ?_ | refine g_eqlNil stp_list ?_ | refine g_eqlNil0 stp_list ?_ | refine g_fieldAddr stp_list ?_ | refine g_field1 stp_list ?_ (hv' := by first | rfl | exact bvs_getLA | (rw [Array.getElem?_toList]; exact hcut)) | refine g_fieldR stp_list ?_ | refine g_eqlSlNil stp_list ?_ | refine g_neqSlNil stp_list ?_ | refine g_makeInterface stp_list ?_ | refine g_makeFunc stp_list ?_ | refine g_conv stp_list ?_ | refine g_pick stp_list ?_ | refine g_not stp_list ?_ | refine g_slice stp_list ?_ | refine g_sliceA stp_list ?_ | refine g_sliceNil stp_list ?_ | refine g_nilCheck stp_list ?_ | refine g_builtS stp_list ?_ | refine g_builtA stp_list ?_) <;> refine put_in ?_) | ((first | refine g_alloc stp_list own_st hS ?_ | refine g_box stp_list own_st hS ?_ | refine g_build0 stp_list own_st hS ?_ | refine g_build stp_list own_st hS ?_ | refine g_make stp_list own_st hS ?_); clear hS; intro b w hS; refine put_in ?_) | ((first | refine g_store1 stp_list own_st hS ?_ | refine g_storeR stp_list own_st hS ?_ | refine g_storeRO stp_list own_st hS ?_); clear hS; intro w hS; refine put_in ?_)) | ((fail_if_success (with_reducible refine cons_list ?_)); first | go_step | go_step3 | rw [Exit.noGoto_normal] | rw [Exit.noGoto_ret] | rw [Exit.noGoto_exit]))
        refine s_call stp_list (by rfl) (by rfl) (by rfl) (by rfl) (by rfl) (by infer_instance) (do_c hy _ _ (hRg.inn hS (by intro x hx; simp [hx])) (by omega)) ?_
        rintro e w1 ⟨sv2, rfl, ho, hB⟩
        obtain ⟨p2, c2, rfl⟩ := ho.slice
        refine ⟨_, rfl, ?_⟩
        refine put_in ?_
        obtain ⟨Lr', hR', hS2⟩ := ho.join hS hB
        simp only [List.cons_append, List.nil_append] at hS2
        replace hS := hS2
        clear hS2 ho hB
        by_cases he : er = 0
        · subst he
          rw [show errV 0 = .nilIface from rfl]
          obtain ⟨hG2, hg1, hg2⟩ := do_good (by show g < 1000000; omega) hy
          have hk2 := hG2.2.2
          have hl2 := hG2.1.1
          obtain ⟨yl, yh, yt, ys, yg⟩ := y
          dsimp only at hg1 hg2 hk2 hl2
          have hCk : ∀ (w1 : World) (v1 : Value), RegsAt w1 v1 yl → Calls Try.prog 14 #[.agg #[v1, .int .i64 yh, .int .i64 yt, .bool ys, .int .i64 yg]] w1 fun e w' => e = .returned .nilIface ∧ Below w1.heap.size w1 w' := fun w1 v1 hw => by
            have := check_any yl yh yt yg ys v1 w1 hw (by omega)
            rwa [decide_eq_true hG2] at this
          by_cases hh : yh = -1
          · repeat' (first | ((with_reducible refine cons_list ?_); first | ((first | refine g_skip stp_list ?_ | refine g_move stp_list ?_ | refine g_assign stp_list ?_ | refine g_load1 stp_list own_st hS ?_ | refine g_loadR stp_list own_st hS ?_ | refine g_indexAddr stp_list ?_ | refine g_indexAddrA stp_list ?_ | refine g_len stp_list ?_ | refine g_cap stp_list ?_ | refine g_extract stp_list ?_ | refine g_add stp_list ?_ | refine g_sub stp_list ?_ | refine g_mul stp_list ?_ | refine g_quo stp_list ?_ | refine g_rem stp_list ?_ | refine g_cmp_t stp_list ?_ | refine g_cmp_f stp_list ?_ | refine g_cmp stp_list (fun hc => ?_) (fun hc => ?_) | refine g_neqNil stp_list ?_ | refine g_neqNil0 stp_list ?_ | refine g_eqlNil stp_list ?_ | refine g_eqlNil0 stp_list ?_ | refine g_fieldAddr stp_list ?_ | refine g_field1 stp_list ?_ | refine g_fieldR stp_list ?_ | refine g_eqlSlNil stp_list ?_ | refine g_neqSlNil stp_list ?_ | refine g_makeInterface stp_list ?_ | refine g_makeFunc stp_list ?_ | refine g_conv stp_list ?_ | refine g_pick stp_list ?_ | refine g_not stp_list ?_ | refine g_slice stp_list ?_ | refine g_sliceA stp_list ?_ | refine g_sliceNil stp_list ?_ | refine g_nilCheck stp_list ?_ | refine g_builtS stp_list ?_ | refine g_builtA stp_list ?_) <;> refine put_in ?_) | ((first | refine g_alloc stp_list own_st hS ?_ | refine g_box stp_list own_st hS ?_ | refine g_build0 stp_list own_st hS ?_ | refine g_build stp_list own_st hS ?_ | refine g_make stp_list own_st hS ?_); clear hS; intro b w hS; refine put_in ?_) | ((first | refine g_store1 stp_list own_st hS ?_ | refine g_storeR stp_list own_st hS ?_ | refine g_storeRO stp_list own_st hS ?_); clear hS; intro w hS; refine put_in ?_) | (refine g_callq stp_list own_st hS (hCk _ _ (hR'.inn hS (by intro x hx; simp [hx]))) ?_; clear hS; intro w hS; refine put_in ?_)) | ((fail_if_success (with_reducible refine cons_list ?_)); first | go_step | go_step3 | rw [Exit.noGoto_normal] | rw [Exit.noGoto_ret] | rw [Exit.noGoto_exit]))
            have hS2 := (own_st.drop (own_st.drop hS)).perm (.cons _ (List.perm_append_comm (l₁ := Lr)))
            go_roundw
            case rel => exact ⟨k + 1, _, _, _, _, _, _, Lr', by omega, by push_cast; rfl, hG2, by omega, hR', St.left (A := _ :: Lr') hS2⟩
            case measure => simp [intOf]; omega
          · rw [if_neg hh] at hk2
            obtain ⟨K, hK⟩ : ∃ K, keyOf yl yh = K := ⟨_, rfl⟩
            rw [hK] at hk2
            obtain ⟨hk3, _⟩ := hk2
            have hk4 : ¬ K = 0 := by omega
            repeat' (first | ((with_reducible refine cons_list ?_); first | ((first | refine g_skip stp_list ?_ | refine g_move stp_list ?_ | refine g_assign stp_list ?_ | refine g_load1 stp_list own_st hS ?_ | refine g_loadR stp_list own_st hS ?_ | refine g_indexAddr stp_list ?_ | refine g_indexAddrA stp_list ?_ | refine g_len stp_list ?_ | refine g_cap stp_list ?_ | refine g_extract stp_list ?_ | refine g_add stp_list ?_ | refine g_sub stp_list ?_ | refine g_mul stp_list ?_ | refine g_quo stp_list ?_ | refine g_rem stp_list ?_ | refine g_cmp_t stp_list ?_ | refine g_cmp_f stp_list ?_ | refine g_cmp stp_list (fun hc => ?_) (fun hc => ?_) | refine g_neqNil stp_list ?_ | refine g_neqNil0 stp_list ?_ | refine g_eqlNil stp_list ?_ | refine g_eqlNil0 stp_list ?_ | refine g_fieldAddr stp_list ?_ | refine g_field1 stp_list ?_ | refine g_fieldR stp_list ?_ | refine g_eqlSlNil stp_list ?_ | refine g_neqSlNil stp_list ?_ | refine g_makeInterface stp_list ?_ | refine g_makeFunc stp_list ?_ | refine g_conv stp_list ?_ | refine g_pick stp_list ?_ | refine g_not stp_list ?_ | refine g_slice stp_list ?_ | refine g_sliceA stp_list ?_ | refine g_sliceNil stp_list ?_ | refine g_nilCheck stp_list ?_ | refine g_builtS stp_list ?_ | refine g_builtA stp_list ?_) <;> refine put_in ?_) | ((first | refine g_alloc stp_list own_st hS ?_ | refine g_box stp_list own_st hS ?_ | refine g_build0 stp_list own_st hS ?_ | refine g_build stp_list own_st hS ?_ | refine g_make stp_list own_st hS ?_); clear hS; intro b w hS; refine put_in ?_) | ((first | refine g_store1 stp_list own_st hS ?_ | refine g_storeR stp_list own_st hS ?_ | refine g_storeRO stp_list own_st hS ?_); clear hS; intro w hS; refine put_in ?_) | (refine g_callq stp_list own_st hS (hCk _ _ (hR'.inn hS (by intro x hx; simp [hx]))) ?_; clear hS; intro w hS; refine put_in ?_) | (refine g_callq stp_list own_st hS (key_c hK _ _ _ _ _ _ (hR'.inn hS (by intro x hx; simp [hx])) (by omega)) ?_; clear hS; intro w hS; refine put_in ?_)) | ((fail_if_success (with_reducible refine cons_list ?_)); first | go_step | go_step3 | rw [Exit.noGoto_normal] | rw [Exit.noGoto_ret] | rw [Exit.noGoto_exit]))
            have hS2 := (own_st.drop (own_st.drop hS)).perm (.cons _ (List.perm_append_comm (l₁ := Lr)))
            go_roundw
            case rel => exact ⟨k + 1, _, _, _, _, _, _, Lr', by omega, by push_cast; rfl, hG2, by omega, hR', St.left (A := _ :: Lr') hS2⟩
            case measure => simp [intOf]; omega
        · rw [show errV er = .iface 45 (.int .i64 er) from if_neg he]
          obtain rfl := do_none hy he
          dsimp only [nobody]
          repeat' (first | ((with_reducible refine cons_list ?_); first | ((first | refine g_skip stp_list ?_ | refine g_move stp_list ?_ | refine g_assign stp_list ?_ | refine g_load1 stp_list own_st hS ?_ | refine g_loadR stp_list own_st hS ?_ | refine g_indexAddr stp_list ?_ | refine g_indexAddrA stp_list ?_ | refine g_len stp_list ?_ | refine g_cap stp_list ?_ | refine g_extract stp_list ?_ | refine g_add stp_list ?_ | refine g_sub stp_list ?_ | refine g_mul stp_list ?_ | refine g_quo stp_list ?_ | refine g_rem stp_list ?_ | refine g_cmp_t stp_list ?_ | refine g_cmp_f stp_list ?_ | refine g_cmp stp_list (fun hc => ?_) (fun hc => ?_) | refine g_neqNil stp_list ?_ | refine g_neqNil0 stp_list ?_ | refine g_eqlNil stp_list ?_ | refine g_eqlNil0 stp_list ?_ | refine g_fieldAddr stp_list ?_ | refine g_field1 stp_list ?_ | refine g_fieldR stp_list ?_ | refine g_eqlSlNil stp_list ?_ | refine g_neqSlNil stp_list ?_ | refine g_makeInterface stp_list ?_ | refine g_makeFunc stp_list ?_ | refine g_conv stp_list ?_ | refine g_pick stp_list ?_ | refine g_not stp_list ?_ | refine g_slice stp_list ?_ | refine g_sliceA stp_list ?_ | refine g_sliceNil stp_list ?_ | refine g_nilCheck stp_list ?_ | refine g_builtS stp_list ?_ | refine g_builtA stp_list ?_) <;> refine put_in ?_) | ((first | refine g_alloc stp_list own_st hS ?_ | refine g_box stp_list own_st hS ?_ | refine g_build0 stp_list own_st hS ?_ | refine g_build stp_list own_st hS ?_ | refine g_make stp_list own_st hS ?_); clear hS; intro b w hS; refine put_in ?_) | ((first | refine g_store1 stp_list own_st hS ?_ | refine g_storeR stp_list own_st hS ?_ | refine g_storeRO stp_list own_st hS ?_); clear hS; intro w hS; refine put_in ?_)) | ((fail_if_success (with_reducible refine cons_list ?_)); first | go_step | go_step3 | rw [Exit.noGoto_normal] | rw [Exit.noGoto_ret] | rw [Exit.noGoto_exit]))
          case roundEnd =>
            have hS2 := own_st.drop (own_st.drop hS)
            refine ⟨⟨k + 1, _, _, _, _, _, _, Lr, by omega, by push_cast; rfl, hG, by omega, hRg, St.left (A := _ :: Lr) hS2⟩, ?_⟩
            simp [intOf]; omega
          all_goals exact absurd (show ((([] : List Rg).length : Nat) : Int) = 0 from rfl) (by assumption)
      · obtain rfl : k = l.length := by omega
        repeat' (first | ((with_reducible refine cons_list ?_); first | ((first | refine g_skip stp_list ?_ | refine g_move stp_list ?_ | refine g_assign stp_list ?_ | refine g_load1 stp_list own_st hS ?_ | refine g_loadR stp_list own_st hS ?_ | refine g_indexAddr stp_list ?_ | refine g_indexAddrA stp_list ?_ | refine g_len stp_list ?_ | refine g_cap stp_list ?_ | refine g_extract stp_list ?_ | refine g_add stp_list ?_ | refine g_sub stp_list ?_ | refine g_mul stp_list ?_ | refine g_quo stp_list ?_ | refine g_rem stp_list ?_ | refine g_cmp_t stp_list ?_ | refine g_cmp_f stp_list ?_ | refine g_cmp stp_list (fun hc => ?_) (fun hc => ?_) | refine g_neqNil stp_list ?_ | refine g_neqNil0 stp_list ?_ | refine g_eqlNil stp_list ?_ | refine g_eqlNil0 stp_list ?_ | refine g_fieldAddr stp_list ?_ | refine g_field1 stp_list ?_ | refine g_fieldR stp_list ?_ | refine g_eqlSlNil stp_list ?_ | refine g_neqSlNil stp_list ?_ | refine g_makeInterface stp_list ?_ | refine g_makeFunc stp_list ?_ | refine g_conv stp_list ?_ | refine g_pick stp_list ?_ | refine g_not stp_list ?_ | refine g_slice stp_list ?_ | refine g_sliceA stp_list ?_ | refine g_sliceNil stp_list ?_ | refine g_nilCheck stp_list ?_ | refine g_builtS stp_list ?_ | refine g_builtA stp_list ?_) <;> refine put_in ?_) | ((first | refine g_alloc stp_list own_st hS ?_ | refine g_box stp_list own_st hS ?_ | refine g_build0 stp_list own_st hS ?_ | refine g_build stp_list own_st hS ?_ | refine g_make stp_list own_st hS ?_); clear hS; intro b w hS; refine put_in ?_) | ((first | refine g_store1 stp_list own_st hS ?_ | refine g_storeR stp_list own_st hS ?_ | refine g_storeRO stp_list own_st hS ?_); clear hS; intro w hS; refine put_in ?_)) | ((fail_if_success (with_reducible refine cons_list ?_)); first | go_step | go_step3 | rw [Exit.noGoto_normal] | rw [Exit.noGoto_ret] | rw [Exit.noGoto_exit]))
        go_ret
        exact ⟨rfl, hS.below⟩
  · go_enter Try.func4, Try.ntmps4
    repeat' (first | ((with_reducible refine cons_list ?_); first | ((first | refine g_skip stp_list ?_ | refine g_move stp_list ?_ | refine g_assign stp_list ?_ | refine g_load1 stp_list own_st hS ?_ | refine g_loadR stp_list own_st hS ?_ | refine g_indexAddr stp_list ?_ | refine g_indexAddrA stp_list ?_ | refine g_len stp_list ?_ | refine g_cap stp_list ?_ | refine g_extract stp_list ?_ | refine g_add stp_list ?_ | refine g_sub stp_list ?_ | refine g_mul stp_list ?_ | refine g_quo stp_list ?_ | refine g_rem stp_list ?_ | refine g_cmp_t stp_list ?_ | refine g_cmp_f stp_list ?_ | refine g_cmp stp_list (fun hc => ?_) (fun hc => ?_) | refine g_neqNil stp_list ?_ | refine g_neqNil0 stp_list ?_ | refine g_eqlNil stp_list ?_ | refine g_eqlNil0 stp_list ?_ | refine g_fieldAddr stp_list ?_ | refine g_field1 stp_list ?_ | refine g_fieldR stp_list ?_ | refine g_eqlSlNil stp_list ?_ | refine g_neqSlNil stp_list ?_ | refine g_makeInterface stp_list ?_ | refine g_makeFunc stp_list ?_ | refine g_conv stp_list ?_ | refine g_pick stp_list ?_ | refine g_not stp_list ?_ | refine g_slice stp_list ?_ | refine g_sliceA stp_list ?_ | refine g_sliceNil stp_list ?_ | refine g_nilCheck stp_list ?_ | refine g_builtS stp_list ?_ | refine g_builtA stp_list ?_) <;> refine put_in ?_) | ((first | refine g_alloc stp_list own_st hS ?_ | refine g_box stp_list own_st hS ?_ | refine g_build0 stp_list own_st hS ?_ | refine g_build stp_list own_st hS ?_ | refine g_make stp_list own_st hS ?_); clear hS; intro b w hS; refine put_in ?_) | ((first | refine g_store1 stp_list own_st hS ?_ | refine g_storeR stp_list own_st hS ?_ | refine g_storeRO stp_list own_st hS ?_); clear hS; intro w hS; refine put_in ?_) | (refine g_callq stp_list own_st hS (alive_any _) ?_; clear hS; intro w hS; refine put_in ?_)) | ((fail_if_success (with_reducible refine cons_list ?_)); first | go_step | go_step3 | rw [Exit.noGoto_normal] | rw [Exit.noGoto_ret] | rw [Exit.noGoto_exit]))
    go_ret
    exact ⟨rfl, hS.below⟩
end Go.Proofs.Ytknkkcbihaojhac

namespace Go.Proofs.Ytknkkcbihaojhac
open Go.ChangeShapes Go.WideShapes Go.ChangeAt Go.RowKit

theorem Try.own : ownKnob Try.prog.godebug = none := by kernel_rfl
theorem Try.laidOut : laidOutB Try.prog = true := by kernel_rfl

set_option maxRecDepth 100000 in
theorem resvRuns_lifted (os : Os) (started : os.Started) (H : Type) (enc : TypeId × Value → H) :
    ReturnsInHanded {} Try.checked os 4 .any (Rows.resvRunsSpec.pre6 enc Try.prog Try.f4 Rows.resvRunsRow.domain false) (Rows.resvRunsSpec.post enc Try.prog Try.f4 false true false false) := by
  refine law_lift (C := Try.checked) Try.own started (by kernel_rfl) Try.func4
    (ChangeSpec.witness6 (enc := enc) (C := Try.checked) false ⟨#[], #[.slice none 0 0], []⟩ 8 (by kernel_rfl) (by kernel_rfl) (by kernel_rfl) (by kernel_rfl))
    rfl (by kernel_rfl) Try.underlying4 (fun ds h => by match ds, h with | [a], _ => exact ⟨rfl, rfl, rfl⟩) Try.laidOut (by kernel_rfl) ?_
  intro W base args ds p hval0 hA0 hlt hsz0
  have hval : ∀ (j : Nat) t v, Try.f4.params[j]? = some t → args[j]? = some v → Value.okWide Try.prog W .any base t v := hval0
  have hA : DataW.TrodAll enc Try.prog W 0 (fun _ => true) true Try.f4.params.toList args.toList ds p := hA0
  have hsz : (DataW.weightsEach Try.prog Try.f4.params.toList ds).all (· ≤ reachBytes) = true := hsz0
  rw [Try.params4] at hA hval hsz
  obtain ⟨v0, d0, rfl, rfl, h0⟩ := trodAll_one hA

  obtain ⟨x0, lx0, mx0⟩ := open_ops (okWide_slice Try.underlying41 (hval 0 _ v0 rfl rfl)) h0
  exact resvRuns_any x0 v0 W lx0 mx0

theorem resvRuns_holds : Rows.ResvRunsSaid :=
  OpenClaim.holds_of_wide 4 Try.f4 rfl rfl rfl rfl rfl rfl rfl ⟨rfl, rfl, rfl, rfl, rfl⟩ rfl rfl rfl rfl rfl (by kernel_rfl) Try.func4 (by kernel_rfl)
    (of_decide_eq_true (by kernel_rfl)) (by unfold Func.isWrapper; rw [if_neg (by decide +kernel)]; exact ⟨rfl, rfl⟩)
    (fun os started H enc _ => resvRuns_lifted os started H enc)

end Go.Proofs.Ytknkkcbihaojhac
