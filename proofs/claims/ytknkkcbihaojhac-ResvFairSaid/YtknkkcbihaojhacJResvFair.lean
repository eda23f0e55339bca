/-
  The law ResvFair: for all operations and every number it answers true. No condition.
-/
import Derived.Test.YtknkkcbihaojhacRows
import Derived.Test.YtknkkcbihaojhacJG0

namespace Go.Proofs.Ytknkkcbihaojhac
open Go.ChangeShapes Go.WideShapes Go.ChangeAt Go.RowKit
attribute [local irreducible] wpList wpListIn Oper.quietAt wpM
theorem holder_may {l : List Rg} {h t g : Int} {s : Bool} (hG : goodR ⟨l, h, t, s, g⟩) {k : Nat} (hk : k < (holdL l h t).length) (ac : Int) (ha : ac = 1 ∨ ac = 2) : decide (allowedP ⟨l, h, t, s, g⟩ ((holdL l h t).getD k 0) ac) = true := by
  have ht := good_typ hG
  refine decide_eq_true ⟨ha, .inr (.inl ((holdL_iff hG.2.1 fun hh => ?_).1 (contains_of hk rfl)))⟩
  rw [if_neg (by exact hh)] at ht
  exact ht.2
theorem may_read {r : Rv} {who : Int} (h : decide (allowedP r who 2) = true) : decide (allowedP r who 1) = true := by
  have h := of_decide_eq_true h
  refine decide_eq_true ⟨.inl rfl, ?_⟩
  rcases h.2 with h | h | h | h | h
  · exact .inl h
  · exact .inr (.inl h)
  · exact absurd h.2 (by decide)
  · exact .inr (.inr (.inr (.inl ⟨h.1, .inl rfl⟩)))
  · exact .inr (.inr (.inr (.inr h)))
theorem may_all {r : Rv} {who ac : Int} (ha : ac = 1 ∨ ac = 2) (h : r.holder = -1) : decide (allowedP r who ac) = true := decide_eq_true ⟨ha, .inl h⟩
theorem may_three {r : Rv} {who : Int} : decide (allowedP r who 3) = false := decide_eq_false fun h => by rcases h.1 with h | h <;> exact absurd h (by decide)
set_option maxRecDepth 100000 in
set_option maxHeartbeats 8000000 in
theorem resvFair_any (l : List Ro) (who : Int) (v : Value) (w0 : World) (hv : OpsAt w0 v l) (hm : l.length ≤ 9223372036854775807) :
    Calls Try.prog 6 #[v, .int .i64 who] w0 fun e w' => e = .returned (.bool true) ∧ Below w0.heap.size w0 w' := by
  obtain ⟨x, hx⟩ : ∃ x, runR nobody l = x := ⟨_, rfl⟩
  have hS := St.start w0
  obtain ⟨F, hF⟩ : ∃ F, decide (l.length ≤ 200) = F := ⟨_, rfl⟩
  have hrun := run_any l v
  rw [hF] at hrun
  cases F with
  | false =>
    go_enter Try.func6, Try.ntmps6
    repeat' (first | ((with_reducible refine cons_list ?_); first | ((first | refine g_skip stp_list ?_ | refine g_move stp_list ?_ | refine g_assign stp_list ?_ | refine g_load1 stp_list own_st hS ?_ | refine g_loadR stp_list own_st hS ?_ | refine g_indexAddr stp_list ?_ | refine g_indexAddrA stp_list ?_ | refine g_len stp_list ?_ | refine g_cap stp_list ?_ | refine g_extract stp_list ?_ | refine g_add stp_list ?_ | refine g_sub stp_list ?_ | refine g_mul stp_list ?_ | refine g_quo stp_list ?_ | refine g_rem stp_list ?_ | refine g_cmp_t stp_list ?_ | refine g_cmp_f stp_list ?_ | refine g_cmp stp_list (fun hc => ?_) (fun hc => ?_) | refine g_neqNil stp_list ?_ | refine g_neqNil0 stp_list ?_ | refine g_eqlNil stp_list ?_ | refine g_eqlNil0 stp_list ?_ | refine g_fieldAddr stp_list ?_ | refine g_field1 stp_list ?_ | refine g_fieldR stp_list ?_ | refine g_eqlSlNil stp_list ?_ | refine g_neqSlNil stp_list ?_ | refine g_makeInterface stp_list ?_ | refine g_makeFunc stp_list ?_ | refine g_conv stp_list ?_ | refine g_pick stp_list ?_ | refine g_not stp_list ?_ | refine g_slice stp_list ?_ | refine g_sliceA stp_list ?_ | refine g_sliceNil stp_list ?_ | refine g_nilCheck stp_list ?_ | refine g_builtS stp_list ?_ | refine g_builtA stp_list ?_) <;> refine put_in ?_) | ((first | refine g_alloc stp_list own_st hS ?_ | refine g_box stp_list own_st hS ?_ | refine g_build0 stp_list own_st hS ?_ | refine g_build stp_list own_st hS ?_ | refine g_make stp_list own_st hS ?_); clear hS; intro b w hS; refine put_in ?_) | ((first | refine g_store1 stp_list own_st hS ?_ | refine g_storeR stp_list own_st hS ?_ | refine g_storeRO stp_list own_st hS ?_); clear hS; intro w hS; refine put_in ?_) | (refine g_callq stp_list own_st hS (alive_any _) ?_; clear hS; intro w hS; refine put_in ?_)) | ((fail_if_success (with_reducible refine cons_list ?_)); first | go_step | go_step3 | rw [Exit.noGoto_normal] | rw [Exit.noGoto_ret] | rw [Exit.noGoto_exit]))
    refine s_call stp_list (by rfl) (by rfl) (by rfl) (by rfl) (by rfl) (by infer_instance) (hrun _ (hv.below hS.below) hm x hx) ?_
    rintro e w1 ⟨sv, rfl, ho, hB⟩
    obtain ⟨p1, c1, rfl⟩ := ho.slice
    refine ⟨_, rfl, ?_⟩
    refine put_in ?_
    replace hS := own_st.call hS hB
    clear ho hB
    repeat' (first | ((with_reducible refine cons_list ?_); first | ((first | refine g_skip stp_list ?_ | refine g_move stp_list ?_ | refine g_assign stp_list ?_ | refine g_load1 stp_list own_st hS ?_ | refine g_loadR stp_list own_st hS ?_ | refine g_indexAddr stp_list ?_ | refine g_indexAddrA stp_list ?_ | refine g_len stp_list ?_ | refine g_cap stp_list ?_ | refine g_extract stp_list ?_ | refine g_add stp_list ?_ | refine g_sub stp_list ?_ | refine g_mul stp_list ?_ | refine g_quo stp_list ?_ | refine g_rem stp_list ?_ | refine g_cmp_t stp_list ?_ | refine g_cmp_f stp_list ?_ | refine g_cmp stp_list (fun hc => ?_) (fun hc => ?_) | refine g_neqNil stp_list ?_ | refine g_neqNil0 stp_list ?_ | refine g_eqlNil stp_list ?_ | refine g_eqlNil0 stp_list ?_ | refine g_fieldAddr stp_list ?_ | refine g_field1 stp_list ?_ | refine g_fieldR stp_list ?_ | refine g_eqlSlNil stp_list ?_ | refine g_neqSlNil stp_list ?_ | refine g_makeInterface stp_list ?_ | refine g_makeFunc stp_list ?_ | refine g_conv stp_list ?_ | refine g_pick stp_list ?_ | refine g_not stp_list ?_ | refine g_slice stp_list ?_ | refine g_sliceA stp_list ?_ | refine g_sliceNil stp_list ?_ | refine g_nilCheck stp_list ?_ | refine g_builtS stp_list ?_ | refine g_builtA stp_list ?_) <;> refine put_in ?_) | ((first | refine g_alloc stp_list own_st hS ?_ | refine g_box stp_list own_st hS ?_ | refine g_build0 stp_list own_st hS ?_ | refine g_build stp_list own_st hS ?_ | refine g_make stp_list own_st hS ?_); clear hS; intro b w hS; refine put_in ?_) | ((first | refine g_store1 stp_list own_st hS ?_ | refine g_storeR stp_list own_st hS ?_ | refine g_storeRO stp_list own_st hS ?_); clear hS; intro w hS; refine put_in ?_)) | ((fail_if_success (with_reducible refine cons_list ?_)); first | go_step | go_step3 | rw [Exit.noGoto_normal] | rw [Exit.noGoto_ret] | rw [Exit.noGoto_exit]))
    have hc := (hS.at 1 rfl).2.1 0
    exact bodyPost_ret (v := .bool true) (by simp [results, Try.results6, go_sem, hc]) rfl ⟨rfl, hS.below⟩
  | true =>
    have h200 := of_decide_eq_true hF
    have hG : goodR x := by
      rw [← hx]; exact (run_good (k := 0) good_nobody (by decide) (by omega)).1
    obtain ⟨rl, h, t, s, g⟩ := x
    have hok : okL rl := hG.2.1
    have h4 : rl.length ≤ 4 := hG.1.1
    have ht : h ≠ -1 → t ≤ 6 := fun hh => by
      have := good_typ hG
      rw [if_neg (by exact hh)] at this
      exact this.2
    refine calls_of_marksR Try.func6 rfl ?_
    simp only [Try.ntmps6, List.size_toArray, List.length_cons, List.length_nil, Nat.reduceAdd, Nat.reduceSub, Array.replicate_succ, Array.replicate_zero, List.push_toArray, List.append_toArray, List.nil_append, List.cons_append]
    repeat' (first | ((with_reducible refine cons_list ?_); first | ((first | refine g_skip stp_list ?_ | refine g_move stp_list ?_ | refine g_assign stp_list ?_ | refine g_load1 stp_list own_st hS ?_ | refine g_loadR stp_list own_st hS ?_ | refine g_indexAddr stp_list ?_ | refine g_indexAddrA stp_list ?_ | refine g_len stp_list ?_ | refine g_cap stp_list ?_ | refine g_extract stp_list ?_ | refine g_add stp_list ?_ | refine g_sub stp_list ?_ | refine g_mul stp_list ?_ | refine g_quo stp_list ?_ | refine g_rem stp_list ?_ | refine g_cmp_t stp_list ?_ | refine g_cmp_f stp_list ?_ | refine g_cmp stp_list (fun hc => ?_) (fun hc => ?_) | refine g_neqNil stp_list ?_ | refine g_neqNil0 stp_list ?_ | refine g_eqlNil stp_list ?_ | refine g_eqlNil0 stp_list ?_ | refine g_fieldAddr stp_list ?_ | refine g_field1 stp_list ?_ | refine g_fieldR stp_list ?_ | refine g_eqlSlNil stp_list ?_ | refine g_neqSlNil stp_list ?_ | refine g_makeInterface stp_list ?_ | refine g_makeFunc stp_list ?_ | refine g_conv stp_list ?_ | refine g_pick stp_list ?_ | refine g_not stp_list ?_ | refine g_slice stp_list ?_ | refine g_sliceA stp_list ?_ | refine g_sliceNil stp_list ?_ | refine g_nilCheck stp_list ?_ | refine g_builtS stp_list ?_ | refine g_builtA stp_list ?_) <;> refine put_in ?_) | ((first | refine g_alloc stp_list own_st hS ?_ | refine g_box stp_list own_st hS ?_ | refine g_build0 stp_list own_st hS ?_ | refine g_build stp_list own_st hS ?_ | refine g_make stp_list own_st hS ?_); clear hS; intro b w hS; refine put_in ?_) | ((first | refine g_store1 stp_list own_st hS ?_ | refine g_storeR stp_list own_st hS ?_ | refine g_storeRO stp_list own_st hS ?_); clear hS; intro w hS; refine put_in ?_) | (refine g_callq stp_list own_st hS (alive_any _) ?_; clear hS; intro w hS; refine put_in ?_)) | ((fail_if_success (with_reducible refine cons_list ?_)); first | go_step | go_step3 | rw [Exit.noGoto_normal] | rw [Exit.noGoto_ret] | rw [Exit.noGoto_exit]))
    refine s_call stp_list (by rfl) (by rfl) (by rfl) (by rfl) (by rfl) (by infer_instance) (hrun _ (hv.below hS.below) hm _ hx) ?_
    rintro e w1 ⟨sv, rfl, ho, hB⟩
    obtain ⟨p1, c1, rfl⟩ := ho.slice
    refine ⟨_, rfl, ?_⟩
    refine put_in ?_
    obtain ⟨Lr, hR, hS2⟩ := ho.join hS hB
    simp only [List.cons_append, List.nil_append] at hS2
    replace hS := hS2
    clear hS2 ho hB
    repeat' (first | ((with_reducible refine cons_list ?_); first | ((first | refine g_skip stp_list ?_ | refine g_move stp_list ?_ | refine g_assign stp_list ?_ | refine g_load1 stp_list own_st hS ?_ | refine g_loadR stp_list own_st hS ?_ | refine g_indexAddr stp_list ?_ | refine g_indexAddrA stp_list ?_ | refine g_len stp_list ?_ | refine g_cap stp_list ?_ | refine g_extract stp_list ?_ | refine g_add stp_list ?_ | refine g_sub stp_list ?_ | refine g_mul stp_list ?_ | refine g_quo stp_list ?_ | refine g_rem stp_list ?_ | refine g_cmp_t stp_list ?_ | refine g_cmp_f stp_list ?_ | refine g_cmp stp_list (fun hc => ?_) (fun hc => ?_) | refine g_neqNil stp_list ?_ | refine g_neqNil0 stp_list ?_ | refine g_eqlNil stp_list ?_ | refine g_eqlNil0 stp_list ?_ | refine g_fieldAddr stp_list ?_ | refine g_field1 stp_list ?_ | refine g_fieldR stp_list ?_ | refine g_eqlSlNil stp_list ?_ | refine g_neqSlNil stp_list ?_ | refine g_makeInterface stp_list ?_ | refine g_makeFunc stp_list ?_ | refine g_conv stp_list ?_ | refine g_pick stp_list ?_ | refine g_not stp_list ?_ | refine g_slice stp_list ?_ | refine g_sliceA stp_list ?_ | refine g_sliceNil stp_list ?_ | refine g_nilCheck stp_list ?_ | refine g_builtS stp_list ?_ | refine g_builtA stp_list ?_) <;> refine put_in ?_) | ((first | refine g_alloc stp_list own_st hS ?_ | refine g_box stp_list own_st hS ?_ | refine g_build0 stp_list own_st hS ?_ | refine g_build stp_list own_st hS ?_ | refine g_make stp_list own_st hS ?_); clear hS; intro b w hS; refine put_in ?_) | ((first | refine g_store1 stp_list own_st hS ?_ | refine g_storeR stp_list own_st hS ?_ | refine g_storeRO stp_list own_st hS ?_); clear hS; intro w hS; refine put_in ?_)) | ((fail_if_success (with_reducible refine cons_list ?_)); first | go_step | go_step3 | rw [Exit.noGoto_normal] | rw [Exit.noGoto_ret] | rw [Exit.noGoto_exit]))
    refine s_call stp_list (by rfl) (by rfl) (by rfl) (by rfl) (by rfl) (by infer_instance) (holders_any _ h t g s _) ?_
    rintro e w2 ⟨gs, rfl, hs1, hs2, hs3⟩
    refine ⟨_, rfl, ?_⟩
    refine put_in ?_
    replace hS := own_st.new hS hs3 hs1 hs2
    repeat' (first | ((with_reducible refine cons_list ?_); first | ((first | refine g_skip stp_list ?_ | refine g_move stp_list ?_ | refine g_assign stp_list ?_ | refine g_load1 stp_list own_st hS ?_ | refine g_loadR stp_list own_st hS ?_ | refine g_indexAddr stp_list ?_ | refine g_indexAddrA stp_list ?_ | refine g_len stp_list ?_ | refine g_cap stp_list ?_ | refine g_extract stp_list ?_ | refine g_add stp_list ?_ | refine g_sub stp_list ?_ | refine g_mul stp_list ?_ | refine g_quo stp_list ?_ | refine g_rem stp_list ?_ | refine g_cmp_t stp_list ?_ | refine g_cmp_f stp_list ?_ | refine g_cmp stp_list (fun hc => ?_) (fun hc => ?_) | refine g_neqNil stp_list ?_ | refine g_neqNil0 stp_list ?_ | refine g_eqlNil stp_list ?_ | refine g_eqlNil0 stp_list ?_ | refine g_fieldAddr stp_list ?_ | refine g_field1 stp_list ?_ | refine g_fieldR stp_list ?_ | refine g_eqlSlNil stp_list ?_ | refine g_neqSlNil stp_list ?_ | refine g_makeInterface stp_list ?_ | refine g_makeFunc stp_list ?_ | refine g_conv stp_list ?_ | refine g_pick stp_list ?_ | refine g_not stp_list ?_ | refine g_slice stp_list ?_ | refine g_sliceA stp_list ?_ | refine g_sliceNil stp_list ?_ | refine g_nilCheck stp_list ?_ | refine g_builtS stp_list ?_ | refine g_builtA stp_list ?_) <;> refine put_in ?_) | ((first | refine g_alloc stp_list own_st hS ?_ | refine g_box stp_list own_st hS ?_ | refine g_build0 stp_list own_st hS ?_ | refine g_build stp_list own_st hS ?_ | refine g_make stp_list own_st hS ?_); clear hS; intro b w hS; refine put_in ?_) | ((first | refine g_store1 stp_list own_st hS ?_ | refine g_storeR stp_list own_st hS ?_ | refine g_storeRO stp_list own_st hS ?_); clear hS; intro w hS; refine put_in ?_)) | ((fail_if_success (with_reducible refine cons_list ?_)); first | go_step | go_step3 | rw [Exit.noGoto_normal] | rw [Exit.noGoto_ret] | rw [Exit.noGoto_exit]))
    have hRw : RegsAt w2 (.slice p1 rl.length c1) rl := hR.inn hS (by intro x hx; simp [hx])
    have hlt0 := hRw.rgB_lt
    have hit := holders1_iter rl _ h t g s gs w2 (hS.blk 0 rfl) hRw (by omega)
    have hb5 := hS.blk 1 rfl
    have hSL := St.start w2
    have hmay := fun k hk ac ha => holder_may hG (k := k) hk ac ha
    obtain ⟨HL, hHL⟩ : ∃ HL, holdL rl h t = HL := ⟨_, rfl⟩
    rw [hHL] at hit hmay
    refine wp_range_plain (els := fun k => #[.int .i64 (HL.getD k 0)]) (N := some HL.length) (R := gs :: rgB rl (.slice p1 rl.length c1)) (gf := 42) (lb := #[.pointer (some ⟨gs, 0, none⟩)]) (by rfl) (by intro args w; kernel_rfl) hit (Below.refl _ _) (fun _ => rfl)
      (fun k L => k ≤ HL.length ∧ L = [])
      (fun _ _ => False) 0 (fun h => by cases h) [] ?I0 ?H0 ?R0 ?act1 ?assign ?body ?done ?stop
    case I0 => exact ⟨by omega, rfl⟩
    case H0 => exact hSL.holds
    case R0 =>
      intro x hx
      rcases List.mem_cons.1 hx with rfl | hx
      · exact ⟨hS.lt 0 rfl, by simp⟩
      · exact ⟨hlt0 x hx, by simp⟩
    case assign =>
      intro l0 k L W hI hIn K hK
      have hS := hIn.round
      simp only [List.zip_toArray, List.zip_cons_cons, List.zip_nil_right, List.foldl_toArray', List.foldl_cons, List.foldl_nil, List.setIfInBounds_toArray, List.set_cons_zero, List.set_cons_succ]
      repeat' (first | ((with_reducible refine cons_in ?_); first | ((first | refine g_skip stp_in ?_ | refine g_move stp_in ?_ | refine g_assign stp_in ?_ | refine g_load1 stp_in own_in hS ?_ | refine g_loadR stp_in own_in hS ?_ | refine g_indexAddr stp_in ?_ | refine g_indexAddrA stp_in ?_ | refine g_len stp_in ?_ | refine g_cap stp_in ?_ | refine g_extract stp_in ?_ | refine g_add stp_in ?_ | refine g_sub stp_in ?_ | refine g_mul stp_in ?_ | refine g_quo stp_in ?_ | refine g_rem stp_in ?_ | refine g_cmp_t stp_in ?_ | refine g_cmp_f stp_in ?_ | refine g_cmp stp_in (fun hc => ?_) (fun hc => ?_) | refine g_neqNil stp_in ?_ | refine g_neqNil0 stp_in ?_ | refine g_eqlNil stp_in ?_ | refine g_eqlNil0 stp_in ?_ | refine g_fieldAddr stp_in ?_ | refine g_field1 stp_in ?_ | refine g_fieldR stp_in ?_ | refine g_eqlSlNil stp_in ?_ | refine g_neqSlNil stp_in ?_ | refine g_makeInterface stp_in ?_ | refine g_makeFunc stp_in ?_ | refine g_conv stp_in ?_ | refine g_pick stp_in ?_ | refine g_not stp_in ?_ | refine g_slice stp_in ?_ | refine g_sliceA stp_in ?_ | refine g_sliceNil stp_in ?_) <;> refine put_in ?_) | ((first | refine g_alloc stp_in own_in hS ?_ | refine g_box stp_in own_in hS ?_ | refine g_build0 stp_in own_in hS ?_ | refine g_build stp_in own_in hS ?_ | refine g_make stp_in own_in hS ?_); clear hS; intro b w hS; refine put_in ?_) | ((first | refine g_store1 stp_in own_in hS ?_ | refine g_storeR stp_in own_in hS ?_); clear hS; intro w hS; refine put_in ?_)) | ((fail_if_success (with_reducible refine cons_in ?_)); first | gi_step | (with_reducible refine wpIn_scope_wide ?_) | (with_reducible refine wpIn_label ?_) | rw [Exit.noGoto_normal] | rw [Exit.noGoto_ret] | rw [Exit.noGoto_exit]))
      exact hK _ hS
    case body =>
      rintro l0 k L W ⟨hk, rfl⟩ hIn hN
      have hlt := hN _ rfl
      have hSW := hSL.range hIn
      have hS := hIn.round
      have hm1 := hmay k hlt 1 (.inl rfl)
      have hm2 := hmay k hlt 2 (.inr rfl)
      repeat' (first | ((with_reducible refine cons_in ?_); first | ((first | refine g_skip stp_in ?_ | refine g_move stp_in ?_ | refine g_assign stp_in ?_ | refine g_load1 stp_in own_in hS ?_ | refine g_load1F stp_in (by first | exact ((St.range hSW hS).far hb5).1) ?_ | refine g_loadR stp_in own_in hS ?_ | refine g_loadRF stp_in (by first | exact ((St.range hSW hS).far hb5).1) ?_ | refine g_indexAddr stp_in ?_ | refine g_indexAddrA stp_in ?_ | refine g_len stp_in ?_ | refine g_cap stp_in ?_ | refine g_extract stp_in ?_ | refine g_add stp_in ?_ | refine g_sub stp_in ?_ | refine g_mul stp_in ?_ | refine g_quo stp_in ?_ | refine g_rem stp_in ?_ | refine g_cmp_t stp_in ?_ | refine g_cmp_f stp_in ?_ | refine g_cmp stp_in (fun hc => ?_) (fun hc => ?_) | refine g_neqNil stp_in ?_ | refine g_neqNil0 stp_in ?_ | refine g_eqlNil stp_in ?_ | refine g_eqlNil0 stp_in ?_ | refine g_fieldAddr stp_in ?_ | refine g_field1 stp_in ?_ | refine g_fieldR stp_in ?_ | refine g_eqlSlNil stp_in ?_ | refine g_neqSlNil stp_in ?_ | refine g_makeInterface stp_in ?_ | refine g_makeFunc stp_in ?_ | refine g_conv stp_in ?_ | refine g_pick stp_in ?_ | refine g_not stp_in ?_ | refine g_slice stp_in ?_ | refine g_sliceA stp_in ?_ | refine g_sliceNil stp_in ?_) <;> refine put_in ?_) | ((first | refine g_alloc stp_in own_in hS ?_ | refine g_box stp_in own_in hS ?_ | refine g_build0 stp_in own_in hS ?_ | refine g_build stp_in own_in hS ?_ | refine g_make stp_in own_in hS ?_); clear hS; intro b w hS; refine put_in ?_) | ((first | refine g_store1 stp_in own_in hS ?_ | refine g_storeR stp_in own_in hS ?_); clear hS; intro w hS; refine put_in ?_) | (refine g_callq stp_in own_in hS (allowed_c hm1 hok ht _ _ (hRw.below (hSW.range hS).below) (by omega)) ?_; clear hS; intro w hS; refine put_in ?_) | (refine g_callq stp_in own_in hS (allowed_c hm2 hok ht _ _ (hRw.below (hSW.range hS).below) (by omega)) ?_; clear hS; intro w hS; refine put_in ?_)) | ((fail_if_success (with_reducible refine cons_in ?_)); first | gi_step | (with_reducible refine wpIn_scope_wide ?_) | (with_reducible refine wpIn_label ?_) | rw [Exit.noGoto_normal] | rw [Exit.noGoto_ret] | rw [Exit.noGoto_exit]))
      exact ⟨_, hS, by omega, rfl⟩
    case done =>
      rintro D N1 L W hm' ⟨hk, rfl⟩ hIn hD hD0
      obtain rfl : HL.length = N1 := Option.some.inj hm'
      have hBel := (hSL.range hIn).below
      have hDw : w0.heap.size ≤ D := Nat.le_trans hS.below.size hD0
      have hS0 := own_st.call hS hBel
      clear hS
      have hS : StD w0 D W _ := ⟨hS0, hD⟩
      have hRW := hRw.below hBel
      obtain ⟨B1, hB1⟩ : ∃ B1, decide (allowedP ⟨rl, h, t, s, g⟩ who 1) = B1 := ⟨_, rfl⟩
      obtain ⟨B2, hB2⟩ : ∃ B2, decide (allowedP ⟨rl, h, t, s, g⟩ who 2) = B2 := ⟨_, rfl⟩
      have hB3 := may_three (r := ⟨rl, h, t, s, g⟩) (who := who)
      have hrd : B2 = true → B1 = true := fun hh => by rw [← hB1]; exact may_read (hB2.trans hh)
      clear hit hIn hmay hSL
      repeat' (first | ((with_reducible refine cons_list ?_); first | ((first | refine g_skip stp_list ?_ | refine g_move stp_list ?_ | refine g_assign stp_list ?_ | refine g_load1 stp_list own_stD hS ?_ | refine g_loadR stp_list own_stD hS ?_ | refine g_indexAddr stp_list ?_ | refine g_indexAddrA stp_list ?_ | refine g_len stp_list ?_ | refine g_cap stp_list ?_ | refine g_extract stp_list ?_ | refine g_add stp_list ?_ | refine g_sub stp_list ?_ | refine g_mul stp_list ?_ | refine g_quo stp_list ?_ | refine g_rem stp_list ?_ | refine g_cmp_t stp_list ?_ | refine g_cmp_f stp_list ?_ | refine g_cmp stp_list (fun hc => ?_) (fun hc => ?_) | refine g_neqNil stp_list ?_ | refine g_neqNil0 stp_list ?_ | refine g_eqlNil stp_list ?_ | refine g_eqlNil0 stp_list ?_ | refine g_fieldAddr stp_list ?_ | refine g_field1 stp_list ?_ | refine g_fieldR stp_list ?_ | refine g_eqlSlNil stp_list ?_ | refine g_neqSlNil stp_list ?_ | refine g_makeInterface stp_list ?_ | refine g_makeFunc stp_list ?_ | refine g_conv stp_list ?_ | refine g_pick stp_list ?_ | refine g_not stp_list ?_ | refine g_slice stp_list ?_ | refine g_sliceA stp_list ?_ | refine g_sliceNil stp_list ?_) <;> refine put_in ?_) | ((first | refine g_alloc stp_list own_stD hS ?_ | refine g_box stp_list own_stD hS ?_ | refine g_build0 stp_list own_stD hS ?_ | refine g_build stp_list own_stD hS ?_ | refine g_make stp_list own_stD hS ?_); clear hS; intro b w hS; refine put_in ?_) | ((first | refine g_store1 stp_list own_stD hS ?_ | refine g_storeR stp_list own_stD hS ?_); clear hS; intro w hS; refine put_in ?_)) | ((fail_if_success (with_reducible refine cons_list ?_)); first | go_step | go_step3 | rw [Exit.noGoto_normal] | rw [Exit.noGoto_ret] | rw [Exit.noGoto_exit]))
      refine region_mono_lit 6 (by kernel_rfl) (by kernel_rfl) ?_
      dsimp only [List.take, List.drop]
      iterate 6 (first | (refine wpM_skip (fun _ => rfl) ?_; simp only [Act.put, List.setIfInBounds_toArray, List.set_cons_zero, List.set_cons_succ]) | (refine wpM_alloc rfl (fun _ => rfl) _ (fun w => r_alloc (a := ⟨#[], []⟩) rfl (by infer_instance)) ?_; simp only [Act.put, List.setIfInBounds_toArray, List.set_cons_zero, List.set_cons_succ]) | (refine wpM_want (fun _ => rfl) (fun K hK => ?_); apply Exists.intro; refine ⟨fun pB w' hw' hF => ?_, hK _ _ ?_⟩; (focus (have hZ := (own_stD).call hS hw'; first | exact (g_qcall (allowed_c hB1 hok ht _ _ (hR.inn hZ.1 (by intro x hx; simp [hx])) (by omega))) | exact (g_qcall (allowed_c hB2 hok ht _ _ (hR.inn hZ.1 (by intro x hx; simp [hx])) (by omega))) | exact q_move | exact q_assign | exact q_load1 own_stD hZ | exact q_loadR own_stD hZ | exact q_indexAddr | exact q_indexAddrA | exact q_len | exact q_cap | exact q_extract | exact q_add | exact q_sub | exact q_mul | exact q_quo | exact q_rem | exact q_cmp_t | exact q_cmp_f | exact q_neqNil | exact q_neqNil0 | exact q_eqlNil | exact q_eqlNil0 | exact q_fieldAddr | exact q_field1 | exact q_fieldR | exact q_eqlSlNil | exact q_neqSlNil | exact q_makeInterface | exact q_makeFunc | exact q_conv | exact q_pick | exact q_not | exact q_slice | exact q_sliceA | exact q_sliceNil)); clear hK K; simp only [Act.put, List.setIfInBounds_toArray, List.set_cons_zero, List.set_cons_succ]))
      refine wpM_nil ?_
      intro pB w hcq hfq hnq
      replace hS := (own_stD).news hS hcq _ (by decide) hfq hnq
      first | simp only [List.map_nil, List.nil_append] at hS | simp only [List.map_cons, List.map_nil, List.cons_append, List.nil_append] at hS
      clear hcq hfq hnq
      try dsimp only
      by_cases hh : h = -1
      · obtain rfl : true = B1 := by rw [← hB1]; exact (may_all (.inl rfl) hh).symm
        obtain rfl : true = B2 := by rw [← hB2]; exact (may_all (.inr rfl) hh).symm
        repeat' (first | ((with_reducible refine cons_list ?_); first | ((first | refine g_skip stp_list ?_ | refine g_move stp_list ?_ | refine g_assign stp_list ?_ | refine g_load1 stp_list own_stD hS ?_ | refine g_loadR stp_list own_stD hS ?_ | refine g_indexAddr stp_list ?_ | refine g_indexAddrA stp_list ?_ | refine g_len stp_list ?_ | refine g_cap stp_list ?_ | refine g_extract stp_list ?_ | refine g_add stp_list ?_ | refine g_sub stp_list ?_ | refine g_mul stp_list ?_ | refine g_quo stp_list ?_ | refine g_rem stp_list ?_ | refine g_cmp_t stp_list ?_ | refine g_cmp_f stp_list ?_ | refine g_cmp stp_list (fun hc => ?_) (fun hc => ?_) | refine g_neqNil stp_list ?_ | refine g_neqNil0 stp_list ?_ | refine g_eqlNil stp_list ?_ | refine g_eqlNil0 stp_list ?_ | refine g_fieldAddr stp_list ?_ | refine g_field1 stp_list ?_ | refine g_fieldR stp_list ?_ | refine g_eqlSlNil stp_list ?_ | refine g_neqSlNil stp_list ?_ | refine g_makeInterface stp_list ?_ | refine g_makeFunc stp_list ?_ | refine g_conv stp_list ?_ | refine g_pick stp_list ?_ | refine g_not stp_list ?_ | refine g_slice stp_list ?_ | refine g_sliceA stp_list ?_ | refine g_sliceNil stp_list ?_) <;> refine put_in ?_) | ((first | refine g_alloc stp_list own_stD hS ?_ | refine g_box stp_list own_stD hS ?_ | refine g_build0 stp_list own_stD hS ?_ | refine g_build stp_list own_stD hS ?_ | refine g_make stp_list own_stD hS ?_); clear hS; intro b w hS; refine put_in ?_) | ((first | refine g_store1 stp_list own_stD hS ?_ | refine g_storeR stp_list own_stD hS ?_); clear hS; intro w hS; refine put_in ?_)) | ((fail_if_success (with_reducible refine cons_list ?_)); first | go_step | go_step3 | rw [Exit.noGoto_normal] | rw [Exit.noGoto_ret] | rw [Exit.noGoto_exit]))
        refine postMR (.inl rfl) rfl hS.2 ?_
        have hS3 := hS.shut hDw
        have hc := (hS3.at 2 rfl).2.1 0
        exact bodyPost_ret (v := .bool true) (by simp [results, Try.results6, go_sem, hc]) rfl ⟨rfl, hS3.below⟩
      · cases B2 with
        | true =>
          obtain rfl : B1 = true := hrd rfl
          repeat' (first | ((with_reducible refine cons_list ?_); first | ((first | refine g_skip stp_list ?_ | refine g_move stp_list ?_ | refine g_assign stp_list ?_ | refine g_load1 stp_list own_stD hS ?_ | refine g_loadR stp_list own_stD hS ?_ | refine g_indexAddr stp_list ?_ | refine g_indexAddrA stp_list ?_ | refine g_len stp_list ?_ | refine g_cap stp_list ?_ | refine g_extract stp_list ?_ | refine g_add stp_list ?_ | refine g_sub stp_list ?_ | refine g_mul stp_list ?_ | refine g_quo stp_list ?_ | refine g_rem stp_list ?_ | refine g_cmp_t stp_list ?_ | refine g_cmp_f stp_list ?_ | refine g_cmp stp_list (fun hc => ?_) (fun hc => ?_) | refine g_neqNil stp_list ?_ | refine g_neqNil0 stp_list ?_ | refine g_eqlNil stp_list ?_ | refine g_eqlNil0 stp_list ?_ | refine g_fieldAddr stp_list ?_ | refine g_field1 stp_list ?_ | refine g_fieldR stp_list ?_ | refine g_eqlSlNil stp_list ?_ | refine g_neqSlNil stp_list ?_ | refine g_makeInterface stp_list ?_ | refine g_makeFunc stp_list ?_ | refine g_conv stp_list ?_ | refine g_pick stp_list ?_ | refine g_not stp_list ?_ | refine g_slice stp_list ?_ | refine g_sliceA stp_list ?_ | refine g_sliceNil stp_list ?_) <;> refine put_in ?_) | ((first | refine g_alloc stp_list own_stD hS ?_ | refine g_box stp_list own_stD hS ?_ | refine g_build0 stp_list own_stD hS ?_ | refine g_build stp_list own_stD hS ?_ | refine g_make stp_list own_stD hS ?_); clear hS; intro b w hS; refine put_in ?_) | ((first | refine g_store1 stp_list own_stD hS ?_ | refine g_storeR stp_list own_stD hS ?_); clear hS; intro w hS; refine put_in ?_) | (refine g_callq stp_list own_stD hS (allowed_c hB3 hok ht _ _ (hR.inn hS.1 (by intro x hx; simp [hx])) (by omega)) ?_; clear hS; intro w hS; refine put_in ?_)) | ((fail_if_success (with_reducible refine cons_list ?_)); first | go_step | go_step3 | rw [Exit.noGoto_normal] | rw [Exit.noGoto_ret] | rw [Exit.noGoto_exit]))
          refine postMR (.inl rfl) rfl hS.2 ?_
          have hS3 := hS.shut hDw
          have hc := (hS3.at 2 rfl).2.1 0
          exact bodyPost_ret (v := .bool true) (by simp [results, Try.results6, go_sem, hc]) rfl ⟨rfl, hS3.below⟩
        | false =>
          cases B1 with
          | true =>
            repeat' (first | ((with_reducible refine cons_list ?_); first | ((first | refine g_skip stp_list ?_ | refine g_move stp_list ?_ | refine g_assign stp_list ?_ | refine g_load1 stp_list own_stD hS ?_ | refine g_loadR stp_list own_stD hS ?_ | refine g_indexAddr stp_list ?_ | refine g_indexAddrA stp_list ?_ | refine g_len stp_list ?_ | refine g_cap stp_list ?_ | refine g_extract stp_list ?_ | refine g_add stp_list ?_ | refine g_sub stp_list ?_ | refine g_mul stp_list ?_ | refine g_quo stp_list ?_ | refine g_rem stp_list ?_ | refine g_cmp_t stp_list ?_ | refine g_cmp_f stp_list ?_ | refine g_cmp stp_list (fun hc => ?_) (fun hc => ?_) | refine g_neqNil stp_list ?_ | refine g_neqNil0 stp_list ?_ | refine g_eqlNil stp_list ?_ | refine g_eqlNil0 stp_list ?_ | refine g_fieldAddr stp_list ?_ | refine g_field1 stp_list ?_ | refine g_fieldR stp_list ?_ | refine g_eqlSlNil stp_list ?_ | refine g_neqSlNil stp_list ?_ | refine g_makeInterface stp_list ?_ | refine g_makeFunc stp_list ?_ | refine g_conv stp_list ?_ | refine g_pick stp_list ?_ | refine g_not stp_list ?_ | refine g_slice stp_list ?_ | refine g_sliceA stp_list ?_ | refine g_sliceNil stp_list ?_) <;> refine put_in ?_) | ((first | refine g_alloc stp_list own_stD hS ?_ | refine g_box stp_list own_stD hS ?_ | refine g_build0 stp_list own_stD hS ?_ | refine g_build stp_list own_stD hS ?_ | refine g_make stp_list own_stD hS ?_); clear hS; intro b w hS; refine put_in ?_) | ((first | refine g_store1 stp_list own_stD hS ?_ | refine g_storeR stp_list own_stD hS ?_); clear hS; intro w hS; refine put_in ?_) | (refine g_callq stp_list own_stD hS (allowed_c hB3 hok ht _ _ (hR.inn hS.1 (by intro x hx; simp [hx])) (by omega)) ?_; clear hS; intro w hS; refine put_in ?_)) | ((fail_if_success (with_reducible refine cons_list ?_)); first | go_step | go_step3 | rw [Exit.noGoto_normal] | rw [Exit.noGoto_ret] | rw [Exit.noGoto_exit]))
            refine postMR (.inl rfl) rfl hS.2 ?_
            have hS3 := hS.shut hDw
            have hc := (hS3.at 2 rfl).2.1 0
            exact bodyPost_ret (v := .bool true) (by simp [results, Try.results6, go_sem, hc]) rfl ⟨rfl, hS3.below⟩
          | false =>
            repeat' (first | ((with_reducible refine cons_list ?_); first | ((first | refine g_skip stp_list ?_ | refine g_move stp_list ?_ | refine g_assign stp_list ?_ | refine g_load1 stp_list own_stD hS ?_ | refine g_loadR stp_list own_stD hS ?_ | refine g_indexAddr stp_list ?_ | refine g_indexAddrA stp_list ?_ | refine g_len stp_list ?_ | refine g_cap stp_list ?_ | refine g_extract stp_list ?_ | refine g_add stp_list ?_ | refine g_sub stp_list ?_ | refine g_mul stp_list ?_ | refine g_quo stp_list ?_ | refine g_rem stp_list ?_ | refine g_cmp_t stp_list ?_ | refine g_cmp_f stp_list ?_ | refine g_cmp stp_list (fun hc => ?_) (fun hc => ?_) | refine g_neqNil stp_list ?_ | refine g_neqNil0 stp_list ?_ | refine g_eqlNil stp_list ?_ | refine g_eqlNil0 stp_list ?_ | refine g_fieldAddr stp_list ?_ | refine g_field1 stp_list ?_ | refine g_fieldR stp_list ?_ | refine g_eqlSlNil stp_list ?_ | refine g_neqSlNil stp_list ?_ | refine g_makeInterface stp_list ?_ | refine g_makeFunc stp_list ?_ | refine g_conv stp_list ?_ | refine g_pick stp_list ?_ | refine g_not stp_list ?_ | refine g_slice stp_list ?_ | refine g_sliceA stp_list ?_ | refine g_sliceNil stp_list ?_) <;> refine put_in ?_) | ((first | refine g_alloc stp_list own_stD hS ?_ | refine g_box stp_list own_stD hS ?_ | refine g_build0 stp_list own_stD hS ?_ | refine g_build stp_list own_stD hS ?_ | refine g_make stp_list own_stD hS ?_); clear hS; intro b w hS; refine put_in ?_) | ((first | refine g_store1 stp_list own_stD hS ?_ | refine g_storeR stp_list own_stD hS ?_); clear hS; intro w hS; refine put_in ?_) | (refine g_callq stp_list own_stD hS (allowed_c hB3 hok ht _ _ (hR.inn hS.1 (by intro x hx; simp [hx])) (by omega)) ?_; clear hS; intro w hS; refine put_in ?_)) | ((fail_if_success (with_reducible refine cons_list ?_)); first | go_step | go_step3 | rw [Exit.noGoto_normal] | rw [Exit.noGoto_ret] | rw [Exit.noGoto_exit]))
            refine postMR (.inl rfl) rfl hS.2 ?_
            have hS3 := hS.shut hDw
            have hc := (hS3.at 2 rfl).2.1 0
            exact bodyPost_ret (v := .bool true) (by simp [results, Try.results6, go_sem, hc]) rfl ⟨rfl, hS3.below⟩
    case stop =>
      rintro D c L W hF'
      exact hF'.elim
end Go.Proofs.Ytknkkcbihaojhac

namespace Go.Proofs.Ytknkkcbihaojhac
open Go.ChangeShapes Go.WideShapes Go.ChangeAt Go.RowKit

theorem Try.own : ownKnob Try.prog.godebug = none := by kernel_rfl
theorem Try.laidOut : laidOutB Try.prog = true := by kernel_rfl

set_option maxRecDepth 100000 in
theorem resvFair_lifted (os : Os) (started : os.Started) (H : Type) (enc : TypeId × Value → H) :
    ReturnsInHanded {} Try.checked os 6 .any (Rows.resvFairSpec.pre6 enc Try.prog Try.f6 Rows.resvFairRow.domain false) (Rows.resvFairSpec.post enc Try.prog Try.f6 false true false false) := by
  refine law_lift (C := Try.checked) Try.own started (by kernel_rfl) Try.func6
    (ChangeSpec.witness6 (enc := enc) (C := Try.checked) false ⟨#[], #[.slice none 0 0, .int .i64 0], []⟩ 8 (by kernel_rfl) (by kernel_rfl) (by kernel_rfl) (by kernel_rfl))
    rfl (by kernel_rfl) Try.underlying4 (fun ds h => by match ds, h with | [a, b], _ => exact ⟨rfl, rfl, rfl⟩) Try.laidOut (by kernel_rfl) ?_
  intro W base args ds p hval0 hA0 hlt hsz0
  have hval : ∀ (j : Nat) t v, Try.f6.params[j]? = some t → args[j]? = some v → Value.okWide Try.prog W .any base t v := hval0
  have hA : DataW.TrodAll enc Try.prog W 0 (fun _ => true) true Try.f6.params.toList args.toList ds p := hA0
  have hsz : (DataW.weightsEach Try.prog Try.f6.params.toList ds).all (· ≤ reachBytes) = true := hsz0
  rw [Try.params6] at hA hval hsz
  obtain ⟨v0, v1, d0, d1, p0, p1, rfl, rfl, rfl, h0, h1⟩ := trodAll_two hA
  obtain ⟨x1, rfl, rfl, rfl, wx1⟩ := open_int Try.underlying3 (hval 1 _ v1 rfl rfl) h1
  obtain ⟨x0, lx0, mx0⟩ := open_ops (okWide_slice Try.underlying41 (hval 0 _ v0 rfl rfl)) h0
  exact resvFair_any x0 x1 v0 W lx0 mx0

theorem resvFair_holds : Rows.ResvFairSaid :=
  OpenClaim.holds_of_wide 6 Try.f6 rfl rfl rfl rfl rfl rfl rfl ⟨rfl, rfl, rfl, rfl, rfl⟩ rfl rfl rfl rfl rfl (by kernel_rfl) Try.func6 (by kernel_rfl)
    (of_decide_eq_true (by kernel_rfl)) (by unfold Func.isWrapper; rw [if_neg (by decide +kernel)]; exact ⟨rfl, rfl⟩)
    (fun os started H enc _ => resvFair_lifted os started H enc)

end Go.Proofs.Ytknkkcbihaojhac
