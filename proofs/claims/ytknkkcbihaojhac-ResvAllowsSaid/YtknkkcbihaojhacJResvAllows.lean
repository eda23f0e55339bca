/-
  The law ResvAllows: for all reservations and every two numbers it answers true. No condition.
-/
import Derived.Test.YtknkkcbihaojhacRows
import Derived.Laws.Small
import Derived.Test.YtknkkcbihaojhacJI0

namespace Go.Proofs.Ytknkkcbihaojhac
open Go.ChangeShapes Go.WideShapes Go.ChangeAt Go.RowKit
attribute [local irreducible] wpList wpListIn Oper.quietAt wpM
theorem holder_may {l : List Rg} {h t g : Int} {s : Bool} (hG : goodR ⟨l, h, t, s, g⟩) {k : Nat} (hk : k < (holdL l h t).length) (ac : Int) (ha : ac = 1 ∨ ac = 2) : decide (allowedP ⟨l, h, t, s, g⟩ ((holdL l h t).getD k 0) ac) = true := by
  have ht := good_typ hG
  refine decide_eq_true ⟨ha, .inr (.inl ((holdL_iff hG.2.1 fun hh => ?_).1 (contains_of hk rfl)))⟩
  rw [if_neg (by exact hh)] at ht
  exact ht.2
theorem may_read {r : Rv} {who : Int} (h : decide (allowedP r who 2) = true) : decide (allowedP r who 1) = true := by
  have h := of_decide_eq_true h
  refine decide_eq_true ⟨.inl rfl, ?_⟩
  rcases h.2 with h | h | h | h | h
  · exact .inl h
  · exact .inr (.inl h)
  · exact absurd h.2 (by decide)
  · exact .inr (.inr (.inr (.inl ⟨h.1, .inl rfl⟩)))
  · exact .inr (.inr (.inr (.inr h)))
theorem may_all {r : Rv} {who ac : Int} (ha : ac = 1 ∨ ac = 2) (h : r.holder = -1) : decide (allowedP r who ac) = true := decide_eq_true ⟨ha, .inl h⟩
theorem may_three {r : Rv} {who : Int} : decide (allowedP r who 3) = false := decide_eq_false fun h => by rcases h.1 with h | h <;> exact absurd h (by decide)
set_option maxRecDepth 100000 in
set_option maxHeartbeats 8000000 in
theorem resvFair_any (l : List Ro) (who : Int) (v : Value) (w0 : World) (hv : OpsAt w0 v l) (hm : l.length ≤ 9223372036854775807) :
    Calls Try.prog 6 #[v, .int .i64 who] w0 fun e w' => e = .returned (.bool true) ∧ Below w0.heap.size w0 w' := by
  obtain ⟨x, hx⟩ : ∃ x, runR nobody l = x := ⟨_, rfl⟩
  have hS := St.start w0
  obtain ⟨F, hF⟩ : ∃ F, decide (l.length ≤ 200) = F := ⟨_, rfl⟩
  have hrun := run_any l v
  rw [hF] at hrun
  cases F with
  | false =>
    go_enter Try.func6, Try.ntmps6
    repeat' (first | ((with_reducible refine cons_list ?_); first | ((first | refine g_skip stp_list ?_ | refine g_move stp_list ?_ | refine g_assign stp_list ?_ | refine g_load1 stp_list own_st hS ?_ | refine g_loadR stp_list own_st hS ?_ | refine g_indexAddr stp_list ?_ | refine g_indexAddrA stp_list ?_ | refine g_len stp_list ?_ | refine g_cap stp_list ?_ | refine g_extract stp_list ?_ | refine g_add stp_list ?_ | refine g_sub stp_list ?_ | refine g_mul stp_list ?_ | refine g_quo stp_list ?_ | refine g_rem stp_list ?_ | refine g_cmp_t stp_list ?_ | refine g_cmp_f stp_list ?_ | refine g_cmp stp_list (fun hc => ?_) (fun hc => ?_) | refine g_neqNil stp_list ?_ | refine g_neqNil0 stp_list ?_ | refine g_eqlNil stp_list ?_ | refine g_eqlNil0 stp_list ?_ | refine g_fieldAddr stp_list ?_ | refine g_field1 stp_list ?_ | refine g_fieldR stp_list ?_ | refine g_eqlSlNil stp_list ?_ | refine g_neqSlNil stp_list ?_ | refine g_makeInterface stp_list ?_ | refine g_makeFunc stp_list ?_ | refine g_conv stp_list ?_ | refine g_pick stp_list ?_ | refine g_not stp_list ?_ | refine g_slice stp_list ?_ | refine g_sliceA stp_list ?_ | refine g_sliceNil stp_list ?_ | refine g_nilCheck stp_list ?_ | refine g_builtS stp_list ?_ | refine g_builtA stp_list ?_) <;> refine put_in ?_) | ((first | refine g_alloc stp_list own_st hS ?_ | refine g_box stp_list own_st hS ?_ | refine g_build0 stp_list own_st hS ?_ | refine g_build stp_list own_st hS ?_ | refine g_make stp_list own_st hS ?_); clear hS; intro b w hS; refine put_in ?_) | ((first | refine g_store1 stp_list own_st hS ?_ | refine g_storeR stp_list own_st hS ?_ | refine g_storeRO stp_list own_st hS ?_); clear hS; intro w hS; refine put_in ?_) | (refine g_callq stp_list own_st hS (alive_any _) ?_; clear hS; intro w hS; refine put_in ?_)) | ((fail_if_success (with_reducible refine cons_list ?_)); first | go_step | go_step3 | rw [Exit.noGoto_normal] | rw [Exit.noGoto_ret] | rw [Exit.noGoto_exit]))
    refine s_call stp_list (by rfl) (by rfl) (by rfl) (by rfl) (by rfl) (by infer_instance) (hrun _ (hv.below hS.below) hm x hx) ?_
    rintro e w1 ⟨sv, rfl, ho, hB⟩
    obtain ⟨p1, c1, rfl⟩ := ho.slice
    refine ⟨_, rfl, ?_⟩
    refine put_in ?_
    replace hS := own_st.call hS hB
    clear ho hB
    repeat' (first | ((with_reducible refine cons_list ?_); first | ((first | refine g_skip stp_list ?_ | refine g_move stp_list ?_ | refine g_assign stp_list ?_ | refine g_load1 stp_list own_st hS ?_ | refine g_loadR stp_list own_st hS ?_ | refine g_indexAddr stp_list ?_ | refine g_indexAddrA stp_list ?_ | refine g_len stp_list ?_ | refine g_cap stp_list ?_ | refine g_extract stp_list ?_ | refine g_add stp_list ?_ | refine g_sub stp_list ?_ | refine g_mul stp_list ?_ | refine g_quo stp_list ?_ | refine g_rem stp_list ?_ | refine g_cmp_t stp_list ?_ | refine g_cmp_f stp_list ?_ | refine g_cmp stp_list (fun hc => ?_) (fun hc => ?_) | refine g_neqNil stp_list ?_ | refine g_neqNil0 stp_list ?_ | refine g_eqlNil stp_list ?_ | refine g_eqlNil0 stp_list ?_ | refine g_fieldAddr stp_list ?_ | refine g_field1 stp_list ?_ | refine g_fieldR stp_list ?_ | refine g_eqlSlNil stp_list ?_ | refine g_neqSlNil stp_list ?_ | refine g_makeInterface stp_list ?_ | refine g_makeFunc stp_list ?_ | refine g_conv stp_list ?_ | refine g_pick stp_list ?_ | refine g_not stp_list ?_ | refine g_slice stp_list ?_ | refine g_sliceA stp_list ?_ | refine g_sliceNil stp_list ?_ | refine g_nilCheck stp_list ?_ | refine g_builtS stp_list ?_ | refine g_builtA stp_list ?_) <;> refine put_in ?_) | ((first | refine g_alloc stp_list own_st hS ?_ | refine g_box stp_list own_st hS ?_ | refine g_build0 stp_list own_st hS ?_ | refine g_build stp_list own_st hS ?_ | refine g_make stp_list own_st hS ?_); clear hS; intro b w hS; refine put_in ?_) | ((first | refine g_store1 stp_list own_st hS ?_ | refine g_storeR stp_list own_st hS ?_ | refine g_storeRO stp_list own_st hS ?_); clear hS; intro w hS; refine put_in ?_)) | ((fail_if_success (with_reducible refine cons_list ?_)); first | go_step | go_step3 | rw [Exit.noGoto_normal] | rw [Exit.noGoto_ret] | rw [Exit.noGoto_exit]))
    have hc := (hS.at 1 rfl).2.1 0
    exact bodyPost_ret (v := .bool true) (by simp [results, Try.results6, go_sem, hc]) rfl ⟨rfl, hS.below⟩
  | true =>
    have h200 := of_decide_eq_true hF
    have hG : goodR x := by
      rw [← hx]; exact (run_good (k := 0) good_nobody (by decide) (by omega)).1
    obtain ⟨rl, h, t, s, g⟩ := x
    have hok : okL rl := hG.2.1
    have h4 : rl.length ≤ 4 := hG.1.1
    have ht : h ≠ -1 → t ≤ 6 := fun hh => by
      have := good_typ hG
      rw [if_neg (by exact hh)] at this
      exact this.2
    refine calls_of_marksR Try.func6 rfl ?_
    simp only [Try.ntmps6, List.size_toArray, List.length_cons, List.length_nil, Nat.reduceAdd, Nat.reduceSub, Array.replicate_succ, Array.replicate_zero, List.push_toArray, List.append_toArray, List.nil_append, List.cons_append]
    repeat' (first | ((with_reducible refine cons_list ?_); first | ((first | refine g_skip stp_list ?_ | refine g_move stp_list ?_ | refine g_assign stp_list ?_ | refine g_load1 stp_list own_st hS ?_ | refine g_loadR stp_list own_st hS ?_ | refine g_indexAddr stp_list ?_ | refine g_indexAddrA stp_list ?_ | refine g_len stp_list ?_ | refine g_cap stp_list ?_ | refine g_extract stp_list ?_ | refine g_add stp_list ?_ | refine g_sub stp_list ?_ | refine g_mul stp_list ?_ | refine g_quo stp_list ?_ | refine g_rem stp_list ?_ | refine g_cmp_t stp_list ?_ | refine g_cmp_f stp_list ?_ | refine g_cmp stp_list (fun hc => ?_) (fun hc => ?_) | refine g_neqNil stp_list ?_ | refine g_neqNil0 stp_list ?_ | refine g_eqlNil stp_list ?_ | refine g_eqlNil0 stp_list ?_ | refine g_fieldAddr stp_list ?_ | refine g_field1 stp_list ?_ | refine g_fieldR stp_list ?_ | refine g_eqlSlNil stp_list ?_ | refine g_neqSlNil stp_list ?_ | refine g_makeInterface stp_list ?_ | refine g_makeFunc stp_list ?_ | refine g_conv stp_list ?_ | refine g_pick stp_list ?_ | refine g_not stp_list ?_ | refine g_slice stp_list ?_ | refine g_sliceA stp_list ?_ | refine g_sliceNil stp_list ?_ | refine g_nilCheck stp_list ?_ | refine g_builtS stp_list ?_ | refine g_builtA stp_list ?_) <;> refine put_in ?_) | ((first | refine g_alloc stp_list own_st hS ?_ | refine g_box stp_list own_st hS ?_ | refine g_build0 stp_list own_st hS ?_ | refine g_build stp_list own_st hS ?_ | refine g_make stp_list own_st hS ?_); clear hS; intro b w hS; refine put_in ?_) | ((first | refine g_store1 stp_list own_st hS ?_ | refine g_storeR stp_list own_st hS ?_ | refine g_storeRO stp_list own_st hS ?_); clear hS; intro w hS; refine put_in ?_) | (refine g_callq stp_list own_st hS (alive_any _) ?_; clear hS; intro w hS; refine put_in ?_)) | ((fail_if_success (with_reducible refine cons_list ?_)); first | go_step | go_step3 | rw [Exit.noGoto_normal] | rw [Exit.noGoto_ret] | rw [Exit.noGoto_exit]))
    refine s_call stp_list (by rfl) (by rfl) (by rfl) (by rfl) (by rfl) (by infer_instance) (hrun _ (hv.below hS.below) hm _ hx) ?_
    rintro e w1 ⟨sv, rfl, ho, hB⟩
    obtain ⟨p1, c1, rfl⟩ := ho.slice
    refine ⟨_, rfl, ?_⟩
    refine put_in ?_
    obtain ⟨Lr, hR, hS2⟩ := ho.join hS hB
    simp only [List.cons_append, List.nil_append] at hS2
    replace hS := hS2
    clear hS2 ho hB
    repeat' (first | ((with_reducible refine cons_list ?_); first | ((first | refine g_skip stp_list ?_ | refine g_move stp_list ?_ | refine g_assign stp_list ?_ | refine g_load1 stp_list own_st hS ?_ | refine g_loadR stp_list own_st hS ?_ | refine g_indexAddr stp_list ?_ | refine g_indexAddrA stp_list ?_ | refine g_len stp_list ?_ | refine g_cap stp_list ?_ | refine g_extract stp_list ?_ | refine g_add stp_list ?_ | refine g_sub stp_list ?_ | refine g_mul stp_list ?_ | refine g_quo stp_list ?_ | refine g_rem stp_list ?_ | refine g_cmp_t stp_list ?_ | refine g_cmp_f stp_list ?_ | refine g_cmp stp_list (fun hc => ?_) (fun hc => ?_) | refine g_neqNil stp_list ?_ | refine g_neqNil0 stp_list ?_ | refine g_eqlNil stp_list ?_ | refine g_eqlNil0 stp_list ?_ | refine g_fieldAddr stp_list ?_ | refine g_field1 stp_list ?_ | refine g_fieldR stp_list ?_ | refine g_eqlSlNil stp_list ?_ | refine g_neqSlNil stp_list ?_ | refine g_makeInterface stp_list ?_ | refine g_makeFunc stp_list ?_ | refine g_conv stp_list ?_ | refine g_pick stp_list ?_ | refine g_not stp_list ?_ | refine g_slice stp_list ?_ | refine g_sliceA stp_list ?_ | refine g_sliceNil stp_list ?_ | refine g_nilCheck stp_list ?_ | refine g_builtS stp_list ?_ | refine g_builtA stp_list ?_) <;> refine put_in ?_) | ((first | refine g_alloc stp_list own_st hS ?_ | refine g_box stp_list own_st hS ?_ | refine g_build0 stp_list own_st hS ?_ | refine g_build stp_list own_st hS ?_ | refine g_make stp_list own_st hS ?_); clear hS; intro b w hS; refine put_in ?_) | ((first | refine g_store1 stp_list own_st hS ?_ | refine g_storeR stp_list own_st hS ?_ | refine g_storeRO stp_list own_st hS ?_); clear hS; intro w hS; refine put_in ?_)) | ((fail_if_success (with_reducible refine cons_list ?_)); first | go_step | go_step3 | rw [Exit.noGoto_normal] | rw [Exit.noGoto_ret] | rw [Exit.noGoto_exit]))
    refine s_call stp_list (by rfl) (by rfl) (by rfl) (by rfl) (by rfl) (by infer_instance) (holders_any _ h t g s _) ?_
    rintro e w2 ⟨gs, rfl, hs1, hs2, hs3⟩
    refine ⟨_, rfl, ?_⟩
    refine put_in ?_
    replace hS := own_st.new hS hs3 hs1 hs2
    repeat' (first | ((with_reducible refine cons_list ?_); first | ((first | refine g_skip stp_list ?_ | refine g_move stp_list ?_ | refine g_assign stp_list ?_ | refine g_load1 stp_list own_st hS ?_ | refine g_loadR stp_list own_st hS ?_ | refine g_indexAddr stp_list ?_ | refine g_indexAddrA stp_list ?_ | refine g_len stp_list ?_ | refine g_cap stp_list ?_ | refine g_extract stp_list ?_ | refine g_add stp_list ?_ | refine g_sub stp_list ?_ | refine g_mul stp_list ?_ | refine g_quo stp_list ?_ | refine g_rem stp_list ?_ | refine g_cmp_t stp_list ?_ | refine g_cmp_f stp_list ?_ | refine g_cmp stp_list (fun hc => ?_) (fun hc => ?_) | refine g_neqNil stp_list ?_ | refine g_neqNil0 stp_list ?_ | refine g_eqlNil stp_list ?_ | refine g_eqlNil0 stp_list ?_ | refine g_fieldAddr stp_list ?_ | refine g_field1 stp_list ?_ | refine g_fieldR stp_list ?_ | refine g_eqlSlNil stp_list ?_ | refine g_neqSlNil stp_list ?_ | refine g_makeInterface stp_list ?_ | refine g_makeFunc stp_list ?_ | refine g_conv stp_list ?_ | refine g_pick stp_list ?_ | refine g_not stp_list ?_ | refine g_slice stp_list ?_ | refine g_sliceA stp_list ?_ | refine g_sliceNil stp_list ?_ | refine g_nilCheck stp_list ?_ | refine g_builtS stp_list ?_ | refine g_builtA stp_list ?_) <;> refine put_in ?_) | ((first | refine g_alloc stp_list own_st hS ?_ | refine g_box stp_list own_st hS ?_ | refine g_build0 stp_list own_st hS ?_ | refine g_build stp_list own_st hS ?_ | refine g_make stp_list own_st hS ?_); clear hS; intro b w hS; refine put_in ?_) | ((first | refine g_store1 stp_list own_st hS ?_ | refine g_storeR stp_list own_st hS ?_ | refine g_storeRO stp_list own_st hS ?_); clear hS; intro w hS; refine put_in ?_)) | ((fail_if_success (with_reducible refine cons_list ?_)); first | go_step | go_step3 | rw [Exit.noGoto_normal] | rw [Exit.noGoto_ret] | rw [Exit.noGoto_exit]))
    have hRw : RegsAt w2 (.slice p1 rl.length c1) rl := hR.inn hS (by intro x hx; simp [hx])
    have hlt0 := hRw.rgB_lt
    have hit := holders1_iter rl _ h t g s gs w2 (hS.blk 0 rfl) hRw (by omega)
    have hb5 := hS.blk 1 rfl
    have hSL := St.start w2
    have hmay := fun k hk ac ha => holder_may hG (k := k) hk ac ha
    obtain ⟨HL, hHL⟩ : ∃ HL, holdL rl h t = HL := ⟨_, rfl⟩
    rw [hHL] at hit hmay
    refine wp_range_plain (els := fun k => #[.int .i64 (HL.getD k 0)]) (N := some HL.length) (R := gs :: rgB rl (.slice p1 rl.length c1)) (gf := 42) (lb := #[.pointer (some ⟨gs, 0, none⟩)]) (by rfl) (by intro args w; kernel_rfl) hit (Below.refl _ _) (fun _ => rfl)
      (fun k L => k ≤ HL.length ∧ L = [])
      (fun _ _ => False) 0 (fun h => by cases h) [] ?I0 ?H0 ?R0 ?act1 ?assign ?body ?done ?stop
    case I0 => exact ⟨by omega, rfl⟩
    case H0 => exact hSL.holds
    case R0 =>
      intro x hx
      rcases List.mem_cons.1 hx with rfl | hx
      · exact ⟨hS.lt 0 rfl, by simp⟩
      · exact ⟨hlt0 x hx, by simp⟩
    case assign =>
      intro l0 k L W hI hIn K hK
      have hS := hIn.round
      simp only [List.zip_toArray, List.zip_cons_cons, List.zip_nil_right, List.foldl_toArray', List.foldl_cons, List.foldl_nil, List.setIfInBounds_toArray, List.set_cons_zero, List.set_cons_succ]
      repeat' (first | ((with_reducible refine cons_in ?_); first | ((first | refine g_skip stp_in ?_ | refine g_move stp_in ?_ | refine g_assign stp_in ?_ | refine g_load1 stp_in own_in hS ?_ | refine g_loadR stp_in own_in hS ?_ | refine g_indexAddr stp_in ?_ | refine g_indexAddrA stp_in ?_ | refine g_len stp_in ?_ | refine g_cap stp_in ?_ | refine g_extract stp_in ?_ | refine g_add stp_in ?_ | refine g_sub stp_in ?_ | refine g_mul stp_in ?_ | refine g_quo stp_in ?_ | refine g_rem stp_in ?_ | refine g_cmp_t stp_in ?_ | refine g_cmp_f stp_in ?_ | refine g_cmp stp_in (fun hc => ?_) (fun hc => ?_) | refine g_neqNil stp_in ?_ | refine g_neqNil0 stp_in ?_ | refine g_eqlNil stp_in ?_ | refine g_eqlNil0 stp_in ?_ | refine g_fieldAddr stp_in ?_ | refine g_field1 stp_in ?_ | refine g_fieldR stp_in ?_ | refine g_eqlSlNil stp_in ?_ | refine g_neqSlNil stp_in ?_ | refine g_makeInterface stp_in ?_ | refine g_makeFunc stp_in ?_ | refine g_conv stp_in ?_ | refine g_pick stp_in ?_ | refine g_not stp_in ?_ | refine g_slice stp_in ?_ | refine g_sliceA stp_in ?_ | refine g_sliceNil stp_in ?_) <;> refine put_in ?_) | ((first | refine g_alloc stp_in own_in hS ?_ | refine g_box stp_in own_in hS ?_ | refine g_build0 stp_in own_in hS ?_ | refine g_build stp_in own_in hS ?_ | refine g_make stp_in own_in hS ?_); clear hS; intro b w hS; refine put_in ?_) | ((first | refine g_store1 stp_in own_in hS ?_ | refine g_storeR stp_in own_in hS ?_); clear hS; intro w hS; refine put_in ?_)) | ((fail_if_success (with_reducible refine cons_in ?_)); first | gi_step | (with_reducible refine wpIn_scope_wide ?_) | (with_reducible refine wpIn_label ?_) | rw [Exit.noGoto_normal] | rw [Exit.noGoto_ret] | rw [Exit.noGoto_exit]))
      exact hK _ hS
    case body =>
      rintro l0 k L W ⟨hk, rfl⟩ hIn hN
      have hlt := hN _ rfl
      have hSW := hSL.range hIn
      have hS := hIn.round
      have hm1 := hmay k hlt 1 (.inl rfl)
      have hm2 := hmay k hlt 2 (.inr rfl)
      repeat' (first | ((with_reducible refine cons_in ?_); first | ((first | refine g_skip stp_in ?_ | refine g_move stp_in ?_ | refine g_assign stp_in ?_ | refine g_load1 stp_in own_in hS ?_ | refine g_load1F stp_in (by first | exact ((St.range hSW hS).far hb5).1) ?_ | refine g_loadR stp_in own_in hS ?_ | refine g_loadRF stp_in (by first | exact ((St.range hSW hS).far hb5).1) ?_ | refine g_indexAddr stp_in ?_ | refine g_indexAddrA stp_in ?_ | refine g_len stp_in ?_ | refine g_cap stp_in ?_ | refine g_extract stp_in ?_ | refine g_add stp_in ?_ | refine g_sub stp_in ?_ | refine g_mul stp_in ?_ | refine g_quo stp_in ?_ | refine g_rem stp_in ?_ | refine g_cmp_t stp_in ?_ | refine g_cmp_f stp_in ?_ | refine g_cmp stp_in (fun hc => ?_) (fun hc => ?_) | refine g_neqNil stp_in ?_ | refine g_neqNil0 stp_in ?_ | refine g_eqlNil stp_in ?_ | refine g_eqlNil0 stp_in ?_ | refine g_fieldAddr stp_in ?_ | refine g_field1 stp_in ?_ | refine g_fieldR stp_in ?_ | refine g_eqlSlNil stp_in ?_ | refine g_neqSlNil stp_in ?_ | refine g_makeInterface stp_in ?_ | refine g_makeFunc stp_in ?_ | refine g_conv stp_in ?_ | refine g_pick stp_in ?_ | refine g_not stp_in ?_ | refine g_slice stp_in ?_ | refine g_sliceA stp_in ?_ | refine g_sliceNil stp_in ?_) <;> refine put_in ?_) | ((first | refine g_alloc stp_in own_in hS ?_ | refine g_box stp_in own_in hS ?_ | refine g_build0 stp_in own_in hS ?_ | refine g_build stp_in own_in hS ?_ | refine g_make stp_in own_in hS ?_); clear hS; intro b w hS; refine put_in ?_) | ((first | refine g_store1 stp_in own_in hS ?_ | refine g_storeR stp_in own_in hS ?_); clear hS; intro w hS; refine put_in ?_) | (refine g_callq stp_in own_in hS (allowed_c hm1 hok ht _ _ (hRw.below (hSW.range hS).below) (by omega)) ?_; clear hS; intro w hS; refine put_in ?_) | (refine g_callq stp_in own_in hS (allowed_c hm2 hok ht _ _ (hRw.below (hSW.range hS).below) (by omega)) ?_; clear hS; intro w hS; refine put_in ?_)) | ((fail_if_success (with_reducible refine cons_in ?_)); first | gi_step | (with_reducible refine wpIn_scope_wide ?_) | (with_reducible refine wpIn_label ?_) | rw [Exit.noGoto_normal] | rw [Exit.noGoto_ret] | rw [Exit.noGoto_exit]))
      exact ⟨_, hS, by omega, rfl⟩
    case done =>
      rintro D N1 L W hm' ⟨hk, rfl⟩ hIn hD hD0
      obtain rfl : HL.length = N1 := Option.some.inj hm'
      have hBel := (hSL.range hIn).below
      have hDw : w0.heap.size ≤ D := Nat.le_trans hS.below.size hD0
      have hS0 := own_st.call hS hBel
      clear hS
      have hS : StD w0 D W _ := ⟨hS0, hD⟩
      have hRW := hRw.below hBel
      obtain ⟨B1, hB1⟩ : ∃ B1, decide (allowedP ⟨rl, h, t, s, g⟩ who 1) = B1 := ⟨_, rfl⟩
      obtain ⟨B2, hB2⟩ : ∃ B2, decide (allowedP ⟨rl, h, t, s, g⟩ who 2) = B2 := ⟨_, rfl⟩
      have hB3 := may_three (r := ⟨rl, h, t, s, g⟩) (who := who)
      have hrd : B2 = true → B1 = true := fun hh => by rw [← hB1]; exact may_read (hB2.trans hh)
      clear hit hIn hmay hSL
      repeat' (first | ((with_reducible refine cons_list ?_); first | ((first | refine g_skip stp_list ?_ | refine g_move stp_list ?_ | refine g_assign stp_list ?_ | refine g_load1 stp_list own_stD hS ?_ | refine g_loadR stp_list own_stD hS ?_ | refine g_indexAddr stp_list ?_ | refine g_indexAddrA stp_list ?_ | refine g_len stp_list ?_ | refine g_cap stp_list ?_ | refine g_extract stp_list ?_ | refine g_add stp_list ?_ | refine g_sub stp_list ?_ | refine g_mul stp_list ?_ | refine g_quo stp_list ?_ | refine g_rem stp_list ?_ | refine g_cmp_t stp_list ?_ | refine g_cmp_f stp_list ?_ | refine g_cmp stp_list (fun hc => ?_) (fun hc => ?_) | refine g_neqNil stp_list ?_ | refine g_neqNil0 stp_list ?_ | refine g_eqlNil stp_list ?_ | refine g_eqlNil0 stp_list ?_ | refine g_fieldAddr stp_list ?_ | refine g_field1 stp_list ?_ | refine g_fieldR stp_list ?_ | refine g_eqlSlNil stp_list ?_ | refine g_neqSlNil stp_list ?_ | refine g_makeInterface stp_list ?_ | refine g_makeFunc stp_list ?_ | refine g_conv stp_list ?_ | refine g_pick stp_list ?_ | refine g_not stp_list ?_ | refine g_slice stp_list ?_ | refine g_sliceA stp_list ?_ | refine g_sliceNil stp_list ?_) <;> refine put_in ?_) | ((first | refine g_alloc stp_list own_stD hS ?_ | refine g_box stp_list own_stD hS ?_ | refine g_build0 stp_list own_stD hS ?_ | refine g_build stp_list own_stD hS ?_ | refine g_make stp_list own_stD hS ?_); clear hS; intro b w hS; refine put_in ?_) | ((first | refine g_store1 stp_list own_stD hS ?_ | refine g_storeR stp_list own_stD hS ?_); clear hS; intro w hS; refine put_in ?_)) | ((fail_if_success (with_reducible refine cons_list ?_)); first | go_step | go_step3 | rw [Exit.noGoto_normal] | rw [Exit.noGoto_ret] | rw [Exit.noGoto_exit]))
      refine region_mono_lit 6 (by kernel_rfl) (by kernel_rfl) ?_
      dsimp only [List.take, List.drop]
      iterate 6 (first | (refine wpM_skip (fun _ => rfl) ?_; simp only [Act.put, List.setIfInBounds_toArray, List.set_cons_zero, List.set_cons_succ]) | (refine wpM_alloc rfl (fun _ => rfl) _ (fun w => r_alloc (a := ⟨#[], []⟩) rfl (by infer_instance)) ?_; simp only [Act.put, List.setIfInBounds_toArray, List.set_cons_zero, List.set_cons_succ]) | (refine wpM_want (fun _ => rfl) (fun K hK => ?_); apply Exists.intro; refine ⟨fun pB w' hw' hF => ?_, hK _ _ ?_⟩; (focus (have hZ := (own_stD).call hS hw'; first | exact (g_qcall (allowed_c hB1 hok ht _ _ (hR.inn hZ.1 (by intro x hx; simp [hx])) (by omega))) | exact (g_qcall (allowed_c hB2 hok ht _ _ (hR.inn hZ.1 (by intro x hx; simp [hx])) (by omega))) | exact q_move | exact q_assign | exact q_load1 own_stD hZ | exact q_loadR own_stD hZ | exact q_indexAddr | exact q_indexAddrA | exact q_len | exact q_cap | exact q_extract | exact q_add | exact q_sub | exact q_mul | exact q_quo | exact q_rem | exact q_cmp_t | exact q_cmp_f | exact q_neqNil | exact q_neqNil0 | exact q_eqlNil | exact q_eqlNil0 | exact q_fieldAddr | exact q_field1 | exact q_fieldR | exact q_eqlSlNil | exact q_neqSlNil | exact q_makeInterface | exact q_makeFunc | exact q_conv | exact q_pick | exact q_not | exact q_slice | exact q_sliceA | exact q_sliceNil)); clear hK K; simp only [Act.put, List.setIfInBounds_toArray, List.set_cons_zero, List.set_cons_succ]))
      refine wpM_nil ?_
      intro pB w hcq hfq hnq
      replace hS := (own_stD).news hS hcq _ (by decide) hfq hnq
      first | simp only [List.map_nil, List.nil_append] at hS | simp only [List.map_cons, List.map_nil, List.cons_append, List.nil_append] at hS
      clear hcq hfq hnq
      try dsimp only
      by_cases hh : h = -1
      · obtain rfl : true = B1 := by rw [← hB1]; exact (may_all (.inl rfl) hh).symm
        obtain rfl : true = B2 := by rw [← hB2]; exact (may_all (.inr rfl) hh).symm
        repeat' (first | ((with_reducible refine cons_list ?_); first | ((first | refine g_skip stp_list ?_ | refine g_move stp_list ?_ | refine g_assign stp_list ?_ | refine g_load1 stp_list own_stD hS ?_ | refine g_loadR stp_list own_stD hS ?_ | refine g_indexAddr stp_list ?_ | refine g_indexAddrA stp_list ?_ | refine g_len stp_list ?_ | refine g_cap stp_list ?_ | refine g_extract stp_list ?_ | refine g_add stp_list ?_ | refine g_sub stp_list ?_ | refine g_mul stp_list ?_ | refine g_quo stp_list ?_ | refine g_rem stp_list ?_ | refine g_cmp_t stp_list ?_ | refine g_cmp_f stp_list ?_ | refine g_cmp stp_list (fun hc => ?_) (fun hc => ?_) | refine g_neqNil stp_list ?_ | refine g_neqNil0 stp_list ?_ | refine g_eqlNil stp_list ?_ | refine g_eqlNil0 stp_list ?_ | refine g_fieldAddr stp_list ?_ | refine g_field1 stp_list ?_ | refine g_fieldR stp_list ?_ | refine g_eqlSlNil stp_list ?_ | refine g_neqSlNil stp_list ?_ | refine g_makeInterface stp_list ?_ | refine g_makeFunc stp_list ?_ | refine g_conv stp_list ?_ | refine g_pick stp_list ?_ | refine g_not stp_list ?_ | refine g_slice stp_list ?_ | refine g_sliceA stp_list ?_ | refine g_sliceNil stp_list ?_) <;> refine put_in ?_) | ((first | refine g_alloc stp_list own_stD hS ?_ | refine g_box stp_list own_stD hS ?_ | refine g_build0 stp_list own_stD hS ?_ | refine g_build stp_list own_stD hS ?_ | refine g_make stp_list own_stD hS ?_); clear hS; intro b w hS; refine put_in ?_) | ((first | refine g_store1 stp_list own_stD hS ?_ | refine g_storeR stp_list own_stD hS ?_); clear hS; intro w hS; refine put_in ?_)) | ((fail_if_success (with_reducible refine cons_list ?_)); first | go_step | go_step3 | rw [Exit.noGoto_normal] | rw [Exit.noGoto_ret] | rw [Exit.noGoto_exit]))
        refine postMR (.inl rfl) rfl hS.2 ?_
        have hS3 := hS.shut hDw
        have hc := (hS3.at 2 rfl).2.1 0
        exact bodyPost_ret (v := .bool true) (by simp [results, Try.results6, go_sem, hc]) rfl ⟨rfl, hS3.below⟩
      · cases B2 with
        | true =>
          obtain rfl : B1 = true := hrd rfl
          repeat' (first | ((with_reducible refine cons_list ?_); first | ((first | refine g_skip stp_list ?_ | refine g_move stp_list ?_ | refine g_assign stp_list ?_ | refine g_load1 stp_list own_stD hS ?_ | refine g_loadR stp_list own_stD hS ?_ | refine g_indexAddr stp_list ?_ | refine g_indexAddrA stp_list ?_ | refine g_len stp_list ?_ | refine g_cap stp_list ?_ | refine g_extract stp_list ?_ | refine g_add stp_list ?_ | refine g_sub stp_list ?_ | refine g_mul stp_list ?_ | refine g_quo stp_list ?_ | refine g_rem stp_list ?_ | refine g_cmp_t stp_list ?_ | refine g_cmp_f stp_list ?_ | refine g_cmp stp_list (fun hc => ?_) (fun hc => ?_) | refine g_neqNil stp_list ?_ | refine g_neqNil0 stp_list ?_ | refine g_eqlNil stp_list ?_ | refine g_eqlNil0 stp_list ?_ | refine g_fieldAddr stp_list ?_ | refine g_field1 stp_list ?_ | refine g_fieldR stp_list ?_ | refine g_eqlSlNil stp_list ?_ | refine g_neqSlNil stp_list ?_ | refine g_makeInterface stp_list ?_ | refine g_makeFunc stp_list ?_ | refine g_conv stp_list ?_ | refine g_pick stp_list ?_ | refine g_not stp_list ?_ | refine g_slice stp_list ?_ | refine g_sliceA stp_list ?_ | refine g_sliceNil stp_list ?_) <;> refine put_in ?_) | ((first | refine g_alloc stp_list own_stD hS ?_ | refine g_box stp_list own_stD hS ?_ | refine g_build0 stp_list own_stD hS ?_ | refine g_build stp_list own_stD hS ?_ | refine g_make stp_list own_stD hS ?_); clear hS; intro b w hS; refine put_in ?_) | ((first | refine g_store1 stp_list own_stD hS ?_ | refine g_storeR stp_list own_stD hS ?_); clear hS; intro w hS; refine put_in ?_) | (refine g_callq stp_list own_stD hS (allowed_c hB3 hok ht _ _ (hR.inn hS.1 (by intro x hx; simp [hx])) (by omega)) ?_; clear hS; intro w hS; refine put_in ?_)) | ((fail_if_success (with_reducible refine cons_list ?_)); first | go_step | go_step3 | rw [Exit.noGoto_normal] | rw [Exit.noGoto_ret] | rw [Exit.noGoto_exit]))
          refine postMR (.inl rfl) rfl hS.2 ?_
          have hS3 := hS.shut hDw
          have hc := (hS3.at 2 rfl).2.1 0
          exact bodyPost_ret (v := .bool true) (by simp [results, Try.results6, go_sem, hc]) rfl ⟨rfl, hS3.below⟩
        | false =>
          cases B1 with
          | true =>
            repeat' (first | ((with_reducible refine cons_list ?_); first | ((first | refine g_skip stp_list ?_ | refine g_move stp_list ?_ | refine g_assign stp_list ?_ | refine g_load1 stp_list own_stD hS ?_ | refine g_loadR stp_list own_stD hS ?_ | refine g_indexAddr stp_list ?_ | refine g_indexAddrA stp_list ?_ | refine g_len stp_list ?_ | refine g_cap stp_list ?_ | refine g_extract stp_list ?_ | refine g_add stp_list ?_ | refine g_sub stp_list ?_ | refine g_mul stp_list ?_ | refine g_quo stp_list ?_ | refine g_rem stp_list ?_ | refine g_cmp_t stp_list ?_ | refine g_cmp_f stp_list ?_ | refine g_cmp stp_list (fun hc => ?_) (fun hc => ?_) | refine g_neqNil stp_list ?_ | refine g_neqNil0 stp_list ?_ | refine g_eqlNil stp_list ?_ | refine g_eqlNil0 stp_list ?_ | refine g_fieldAddr stp_list ?_ | refine g_field1 stp_list ?_ | refine g_fieldR stp_list ?_ | refine g_eqlSlNil stp_list ?_ | refine g_neqSlNil stp_list ?_ | refine g_makeInterface stp_list ?_ | refine g_makeFunc stp_list ?_ | refine g_conv stp_list ?_ | refine g_pick stp_list ?_ | refine g_not stp_list ?_ | refine g_slice stp_list ?_ | refine g_sliceA stp_list ?_ | refine g_sliceNil stp_list ?_) <;> refine put_in ?_) | ((first | refine g_alloc stp_list own_stD hS ?_ | refine g_box stp_list own_stD hS ?_ | refine g_build0 stp_list own_stD hS ?_ | refine g_build stp_list own_stD hS ?_ | refine g_make stp_list own_stD hS ?_); clear hS; intro b w hS; refine put_in ?_) | ((first | refine g_store1 stp_list own_stD hS ?_ | refine g_storeR stp_list own_stD hS ?_); clear hS; intro w hS; refine put_in ?_) | (refine g_callq stp_list own_stD hS (allowed_c hB3 hok ht _ _ (hR.inn hS.1 (by intro x hx; simp [hx])) (by omega)) ?_; clear hS; intro w hS; refine put_in ?_)) | ((fail_if_success (with_reducible refine cons_list ?_)); first | go_step | go_step3 | rw [Exit.noGoto_normal] | rw [Exit.noGoto_ret] | rw [Exit.noGoto_exit]))
            refine postMR (.inl rfl) rfl hS.2 ?_
            have hS3 := hS.shut hDw
            have hc := (hS3.at 2 rfl).2.1 0
            exact bodyPost_ret (v := .bool true) (by simp [results, Try.results6, go_sem, hc]) rfl ⟨rfl, hS3.below⟩
          | false =>
            repeat' (first | ((with_reducible refine cons_list ?_); first | ((first | refine g_skip stp_list ?_ | refine g_move stp_list ?_ | refine g_assign stp_list ?_ | refine g_load1 stp_list own_stD hS ?_ | refine g_loadR stp_list own_stD hS ?_ | refine g_indexAddr stp_list ?_ | refine g_indexAddrA stp_list ?_ | refine g_len stp_list ?_ | refine g_cap stp_list ?_ | refine g_extract stp_list ?_ | refine g_add stp_list ?_ | refine g_sub stp_list ?_ | refine g_mul stp_list ?_ | refine g_quo stp_list ?_ | refine g_rem stp_list ?_ | refine g_cmp_t stp_list ?_ | refine g_cmp_f stp_list ?_ | refine g_cmp stp_list (fun hc => ?_) (fun hc => ?_) | refine g_neqNil stp_list ?_ | refine g_neqNil0 stp_list ?_ | refine g_eqlNil stp_list ?_ | refine g_eqlNil0 stp_list ?_ | refine g_fieldAddr stp_list ?_ | refine g_field1 stp_list ?_ | refine g_fieldR stp_list ?_ | refine g_eqlSlNil stp_list ?_ | refine g_neqSlNil stp_list ?_ | refine g_makeInterface stp_list ?_ | refine g_makeFunc stp_list ?_ | refine g_conv stp_list ?_ | refine g_pick stp_list ?_ | refine g_not stp_list ?_ | refine g_slice stp_list ?_ | refine g_sliceA stp_list ?_ | refine g_sliceNil stp_list ?_) <;> refine put_in ?_) | ((first | refine g_alloc stp_list own_stD hS ?_ | refine g_box stp_list own_stD hS ?_ | refine g_build0 stp_list own_stD hS ?_ | refine g_build stp_list own_stD hS ?_ | refine g_make stp_list own_stD hS ?_); clear hS; intro b w hS; refine put_in ?_) | ((first | refine g_store1 stp_list own_stD hS ?_ | refine g_storeR stp_list own_stD hS ?_); clear hS; intro w hS; refine put_in ?_) | (refine g_callq stp_list own_stD hS (allowed_c hB3 hok ht _ _ (hR.inn hS.1 (by intro x hx; simp [hx])) (by omega)) ?_; clear hS; intro w hS; refine put_in ?_)) | ((fail_if_success (with_reducible refine cons_list ?_)); first | go_step | go_step3 | rw [Exit.noGoto_normal] | rw [Exit.noGoto_ret] | rw [Exit.noGoto_exit]))
            refine postMR (.inl rfl) rfl hS.2 ?_
            have hS3 := hS.shut hDw
            have hc := (hS3.at 2 rfl).2.1 0
            exact bodyPost_ret (v := .bool true) (by simp [results, Try.results6, go_sem, hc]) rfl ⟨rfl, hS3.below⟩
    case stop =>
      rintro D c L W hF'
      exact hF'.elim
end Go.Proofs.Ytknkkcbihaojhac

namespace Go.Proofs.Ytknkkcbihaojhac
open Go.ChangeShapes Go.WideShapes Go.ChangeAt Go.RowKit
attribute [local irreducible] wpList wpListIn Oper.quietAt wpM
theorem is_same2 (n : Int) (w0 : World) : Calls Try.prog 17 #[errV n, .int .i64 n] w0 fun e w' => e = .returned (.bool true) ∧ Below w0.heap.size w0 w' := by
  have hS := St.start w0
  go_enter Try.func17, Try.ntmps17
  repeat' (first | ((with_reducible refine cons_list ?_); first | ((first | refine g_skip stp_list ?_ | refine g_move stp_list ?_ | refine g_assign stp_list ?_ | refine g_load1 stp_list own_st hS ?_ | refine g_loadR stp_list own_st hS ?_ | refine g_indexAddr stp_list ?_ | refine g_indexAddrA stp_list ?_ | refine g_len stp_list ?_ | refine g_cap stp_list ?_ | refine g_extract stp_list ?_ | refine g_add stp_list ?_ | refine g_sub stp_list ?_ | refine g_mul stp_list ?_ | refine g_quo stp_list ?_ | refine g_rem stp_list ?_ | refine g_cmp_t stp_list ?_ | refine g_cmp_f stp_list ?_ | refine g_cmp stp_list (fun hc => ?_) (fun hc => ?_) | refine g_neqNil stp_list ?_ | refine g_neqNil0 stp_list ?_ | refine g_eqlNil stp_list ?_ | refine g_eqlNil0 stp_list ?_ | refine g_fieldAddr stp_list ?_ | refine g_field1 stp_list ?_ | refine g_fieldR stp_list ?_ | refine g_eqlSlNil stp_list ?_ | refine g_neqSlNil stp_list ?_ | refine g_makeInterface stp_list ?_ | refine g_makeFunc stp_list ?_ | refine g_conv stp_list ?_ | refine g_pick stp_list ?_ | refine g_not stp_list ?_ | refine g_slice stp_list ?_ | refine g_sliceA stp_list ?_ | refine g_sliceNil stp_list ?_) <;> refine put_in ?_) | ((first | refine g_alloc stp_list own_st hS ?_ | refine g_box stp_list own_st hS ?_ | refine g_build0 stp_list own_st hS ?_ | refine g_build stp_list own_st hS ?_ | refine g_make stp_list own_st hS ?_); clear hS; intro b w hS; refine put_in ?_) | ((first | refine g_store1 stp_list own_st hS ?_ | refine g_storeR stp_list own_st hS ?_); clear hS; intro w hS; refine put_in ?_) | (refine g_callq stp_list own_st hS (num_errV _ _) ?_; clear hS; intro w hS; refine put_in ?_)) | ((fail_if_success (with_reducible refine cons_list ?_)); first | go_step | go_step3 | rw [Exit.noGoto_normal] | rw [Exit.noGoto_ret] | rw [Exit.noGoto_exit]))
  go_ret
  exact ⟨rfl, hS.below⟩
theorem goodRef_c {B : Bool} {l : List Rg} {h t g : Int} {s : Bool} (hB : decide (goodR ⟨l, h, t, s, g⟩) = B) (v : Value) (w0 : World) (hv : RegsAt w0 v l) (hm : l.length ≤ 1000000) :
    Calls Try.prog 15 #[.agg #[v, .int .i64 h, .int .i64 t, .bool s, .int .i64 g]] w0 fun e w' => e = .returned (.bool B) ∧ Below w0.heap.size w0 w' := by
  subst hB; exact goodRef_any l h t g s v w0 hv hm
theorem allowedRef_c {B : Bool} {l : List Rg} {h t g who ac : Int} {s : Bool} (hB : decide (allowedP ⟨l, h, t, s, g⟩ who ac) = B) (hl : okL l) (ht : h ≠ -1 → 1 ≤ t ∧ t ≤ 6) (v : Value) (w0 : World) (hv : RegsAt w0 v l) (hm : l.length ≤ 1000000) :
    Calls Try.prog 21 #[.agg #[v, .int .i64 h, .int .i64 t, .bool s, .int .i64 g], .int .i64 who, .int .i64 ac] w0 fun e w' => e = .returned (.bool B) ∧ Below w0.heap.size w0 w' := by
  subst hB; exact allowedRef_any l hl h t g who ac s ht v w0 hv hm
theorem r_eqB {P : Program} {o : Oper} {a : Act} {w : World} {t t' : TypeId} {x y : Operand} {m : Bool} (hop : o.op = .binOp .eql t x y t') (hx : evO a x = some (.bool m)) (hy : evO a y = some (.bool m)) (ht : P.underlying t = some .bool) : (execOp a.eval o).run P w = .ok (.value (.bool true)) w := by
  unfold execOp; rw [hop]
  simp [evO_eval hx, evO_eval hy, eqGuard, binOp, run_equal_bool w t m m ht]
theorem holders_count {l : List Rg} {h t g : Int} {s : Bool} (hG : goodR ⟨l, h, t, s, g⟩) : (holdL l h t).length = (l.filter fun y => decide (holdsR ⟨l, h, t, s, g⟩ y.1)).length := by
  have ht := good_typ hG
  have hl : okL l := hG.2.1
  unfold holdL
  by_cases hh : h = -1
  · have e : (l.filter fun y => decide (holdsR ⟨l, h, t, s, g⟩ y.1)) = [] := List.filter_eq_nil_iff.2 fun y _ => by simp [holdsR, hh]
    rw [if_pos hh, e]; rfl
  · rw [if_neg hh, List.length_map]
    congr 1
    apply List.filter_congr
    intro y hy
    rw [if_neg (by exact hh)] at ht
    have h6 : t ≤ 6 := ht.2
    have hk : keyOf l y.1 ≠ 0 := (keyOf_has y.1 hl).1 (List.any_eq_true.2 ⟨y, hy, by simp⟩)
    rw [Bool.eq_iff_iff]
    simp only [Bool.or_eq_true, decide_eq_true_eq, beq_iff_eq]
    unfold holdsR
    dsimp only
    constructor
    · rintro (h1 | h1)
      · exact ⟨⟨hh, hk⟩, .inr (by omega)⟩
      · exact ⟨⟨hh, hk⟩, .inl h1.symm⟩
    · rintro ⟨_, h1 | h1⟩
      · exact .inr h1.symm
      · exact .inl (by omega)
theorem holder_holds {l : List Rg} {h t g : Int} {s : Bool} (hG : goodR ⟨l, h, t, s, g⟩) {k : Nat} (hk : k < (holdL l h t).length) : decide (holdsR ⟨l, h, t, s, g⟩ ((holdL l h t).getD k 0)) = true := by
  have ht := good_typ hG
  refine decide_eq_true ((holdL_iff hG.2.1 fun hh => ?_).1 (contains_of hk rfl))
  rw [if_neg (by exact hh)] at ht
  exact ht.2
set_option maxRecDepth 100000 in
set_option maxHeartbeats 16000000 in
theorem resvAllows_any (l : List Rg) (h t g who ac : Int) (s : Bool) (v : Value) (w0 : World) (hv : RegsAt w0 v l) :
    Calls Try.prog 5 #[.agg #[v, .int .i64 h, .int .i64 t, .bool s, .int .i64 g], .int .i64 who, .int .i64 ac] w0 fun e w' => e = .returned (.bool true) ∧ Below w0.heap.size w0 w' := by
  obtain ⟨p, c, rfl, hc⟩ := hv.slice
  have hS := St.start w0
  by_cases hm : l.length ≤ 100
  · by_cases hG : goodR ⟨l, h, t, s, g⟩
    · have hGd := decide_eq_true hG
      have hok : okL l := hG.2.1
      have h4 : l.length ≤ 4 := hG.1.1
      have htt : h ≠ -1 → 1 ≤ t ∧ t ≤ 6 := fun hh => by
        have := good_typ hG
        rw [if_neg (by exact hh)] at this
        exact this
      refine calls_of_marksR Try.func5 rfl ?_
      simp only [Try.ntmps5, List.size_toArray, List.length_cons, List.length_nil, Nat.reduceAdd, Nat.reduceSub, Array.replicate_succ, Array.replicate_zero, List.push_toArray, List.append_toArray, List.nil_append, List.cons_append]
      repeat' (first | ((with_reducible refine cons_list ?_); first | ((first | refine g_skip stp_list ?_ | refine g_move stp_list ?_ | refine g_assign stp_list ?_ | refine g_load1 stp_list own_st hS ?_ | refine g_loadR stp_list own_st hS ?_ | refine g_indexAddr stp_list ?_ | refine g_indexAddrA stp_list ?_ | refine g_len stp_list ?_ | refine g_cap stp_list ?_ | refine g_extract stp_list ?_ | refine g_add stp_list ?_ | refine g_sub stp_list ?_ | refine g_mul stp_list ?_ | refine g_quo stp_list ?_ | refine g_rem stp_list ?_ | refine g_cmp_t stp_list ?_ | refine g_cmp_f stp_list ?_ | refine g_cmp stp_list (fun hc => ?_) (fun hc => ?_) | refine g_neqNil stp_list ?_ | refine g_neqNil0 stp_list ?_ | refine g_eqlNil stp_list ?_ | refine g_eqlNil0 stp_list ?_ | refine g_fieldAddr stp_list ?_ | refine g_field1 stp_list ?_ | refine g_fieldR stp_list ?_ | refine g_eqlSlNil stp_list ?_ | refine g_neqSlNil stp_list ?_ | refine g_makeInterface stp_list ?_ | refine g_makeFunc stp_list ?_ | refine g_conv stp_list ?_ | refine g_pick stp_list ?_ | refine g_not stp_list ?_ | refine g_slice stp_list ?_ | refine g_sliceA stp_list ?_ | refine g_sliceNil stp_list ?_ | refine g_nilCheck stp_list ?_ | refine g_builtS stp_list ?_ | refine g_builtA stp_list ?_) <;> refine put_in ?_) | ((first | refine g_alloc stp_list own_st hS ?_ | refine g_box stp_list own_st hS ?_ | refine g_build0 stp_list own_st hS ?_ | refine g_build stp_list own_st hS ?_ | refine g_make stp_list own_st hS ?_); clear hS; intro b w hS; refine put_in ?_) | ((first | refine g_store1 stp_list own_st hS ?_ | refine g_storeR stp_list own_st hS ?_ | refine g_storeRO stp_list own_st hS ?_); clear hS; intro w hS; refine put_in ?_) | (refine g_callq stp_list own_st hS (alive_any _) ?_; clear hS; intro w hS; refine put_in ?_) | (refine g_callq stp_list own_st hS (goodRef_c hGd _ _ (hv.below hS.below) (by omega)) ?_; clear hS; intro w hS; refine put_in ?_)) | ((fail_if_success (with_reducible refine cons_list ?_)); first | go_step | go_step3 | rw [Exit.noGoto_normal] | rw [Exit.noGoto_ret] | rw [Exit.noGoto_exit]))
      rename_i b3 y1 b6 y2 y3 y4 y5 y6 y7 y8 y9 y10 y11
      refine s_call stp_list (by rfl) (by rfl) (by rfl) (by rfl) (by rfl) (by infer_instance) (holders_any _ h t g s _) ?_
      rintro e w2 ⟨gs, rfl, hs1, hs2, hs3⟩
      refine ⟨_, rfl, ?_⟩
      refine put_in ?_
      replace hS := own_st.new hS hs3 hs1 hs2
      repeat' (first | ((with_reducible refine cons_list ?_); first | ((first | refine g_skip stp_list ?_ | refine g_move stp_list ?_ | refine g_assign stp_list ?_ | refine g_load1 stp_list own_st hS ?_ | refine g_loadR stp_list own_st hS ?_ | refine g_indexAddr stp_list ?_ | refine g_indexAddrA stp_list ?_ | refine g_len stp_list ?_ | refine g_cap stp_list ?_ | refine g_extract stp_list ?_ | refine g_add stp_list ?_ | refine g_sub stp_list ?_ | refine g_mul stp_list ?_ | refine g_quo stp_list ?_ | refine g_rem stp_list ?_ | refine g_cmp_t stp_list ?_ | refine g_cmp_f stp_list ?_ | refine g_cmp stp_list (fun hc => ?_) (fun hc => ?_) | refine g_neqNil stp_list ?_ | refine g_neqNil0 stp_list ?_ | refine g_eqlNil stp_list ?_ | refine g_eqlNil0 stp_list ?_ | refine g_fieldAddr stp_list ?_ | refine g_field1 stp_list ?_ | refine g_fieldR stp_list ?_ | refine g_eqlSlNil stp_list ?_ | refine g_neqSlNil stp_list ?_ | refine g_makeInterface stp_list ?_ | refine g_makeFunc stp_list ?_ | refine g_conv stp_list ?_ | refine g_pick stp_list ?_ | refine g_not stp_list ?_ | refine g_slice stp_list ?_ | refine g_sliceA stp_list ?_ | refine g_sliceNil stp_list ?_ | refine g_nilCheck stp_list ?_ | refine g_builtS stp_list ?_ | refine g_builtA stp_list ?_) <;> refine put_in ?_) | ((first | refine g_alloc stp_list own_st hS ?_ | refine g_box stp_list own_st hS ?_ | refine g_build0 stp_list own_st hS ?_ | refine g_build stp_list own_st hS ?_ | refine g_make stp_list own_st hS ?_); clear hS; intro b w hS; refine put_in ?_) | ((first | refine g_store1 stp_list own_st hS ?_ | refine g_storeR stp_list own_st hS ?_ | refine g_storeRO stp_list own_st hS ?_); clear hS; intro w hS; refine put_in ?_)) | ((fail_if_success (with_reducible refine cons_list ?_)); first | go_step | go_step3 | rw [Exit.noGoto_normal] | rw [Exit.noGoto_ret] | rw [Exit.noGoto_exit]))
      have hlt0 := hv.rgB_lt
      have hit := holders1_iter l _ h t g s gs w2 (hS.blk 0 rfl) (hv.below hS.below) (by omega)
      have hSL := own_st.drop hS
      have hmay := fun k hk => holder_holds hG (k := k) hk
      have hcnt := holders_count hG
      obtain ⟨HL, hHL⟩ : ∃ HL, holdL l h t = HL := ⟨_, rfl⟩
      rw [hHL] at hit hmay hcnt
      have hHn : HL.length ≤ 4 := by rw [hcnt]; exact Nat.le_trans (List.length_filter_le ..) h4
      refine wp_range_plain (els := fun k => #[.int .i64 (HL.getD k 0)]) (N := some HL.length) (R := gs :: rgB l (.slice p l.length c)) (gf := 42) (lb := #[.pointer (some ⟨gs, 0, none⟩)]) (by rfl) (by intro args w; kernel_rfl) hit (Below.refl _ _) (fun _ => rfl)
        (fun k L => k ≤ HL.length ∧ L = [(b, #[.int .i64 (k : Int)], 3), (b6, #[.bool false], 4), (b3, #[.slice p l.length c, .int .i64 h, .int .i64 t, .bool s, .int .i64 g], 24)])
        (fun _ _ => False) 0 (fun h => by cases h) [(b, #[.int .i64 0], 3), (b6, #[.bool false], 4), (b3, #[.slice p l.length c, .int .i64 h, .int .i64 t, .bool s, .int .i64 g], 24)] ?I0 ?H0 ?R0 ?act1 ?assign ?body ?done ?stop
      case I0 => exact ⟨by omega, rfl⟩
      case H0 => exact hSL.holds
      case R0 =>
        intro x hx
        rcases List.mem_cons.1 hx with rfl | hx
        · refine ⟨hS.lt 0 rfl, ?_⟩
          simp only [List.map_cons, List.map_nil, List.mem_cons, List.not_mem_nil, or_false, not_or]
          exact ⟨hS.ne 0 1 rfl rfl (by decide), hS.ne 0 2 rfl rfl (by decide), hS.ne 0 3 rfl rfl (by decide)⟩
        · have h1 := hlt0 x hx
          have h2 := hS.low 1 rfl
          have h3 := hS.low 2 rfl
          have h4 := hS.low 3 rfl
          refine ⟨Nat.lt_of_lt_of_le h1 hS.below.size, ?_⟩
          simp only [List.map_cons, List.map_nil, List.mem_cons, List.not_mem_nil, or_false, not_or]
          exact ⟨by omega, by omega, by omega⟩
      case assign =>
        intro l0 k L W hI hIn K hK
        have hS := hIn.round
        simp only [List.zip_toArray, List.zip_cons_cons, List.zip_nil_right, List.foldl_toArray', List.foldl_cons, List.foldl_nil, List.setIfInBounds_toArray, List.set_cons_zero, List.set_cons_succ]
        repeat' (first | ((with_reducible refine cons_in ?_); first | ((first | refine g_skip stp_in ?_ | refine g_move stp_in ?_ | refine g_assign stp_in ?_ | refine g_load1 stp_in own_in hS ?_ | refine g_loadR stp_in own_in hS ?_ | refine g_indexAddr stp_in ?_ | refine g_indexAddrA stp_in ?_ | refine g_len stp_in ?_ | refine g_cap stp_in ?_ | refine g_extract stp_in ?_ | refine g_add stp_in ?_ | refine g_sub stp_in ?_ | refine g_mul stp_in ?_ | refine g_quo stp_in ?_ | refine g_rem stp_in ?_ | refine g_cmp_t stp_in ?_ | refine g_cmp_f stp_in ?_ | refine g_cmp stp_in (fun hc => ?_) (fun hc => ?_) | refine g_neqNil stp_in ?_ | refine g_neqNil0 stp_in ?_ | refine g_eqlNil stp_in ?_ | refine g_eqlNil0 stp_in ?_ | refine g_fieldAddr stp_in ?_ | refine g_field1 stp_in ?_ | refine g_fieldR stp_in ?_ | refine g_eqlSlNil stp_in ?_ | refine g_neqSlNil stp_in ?_ | refine g_makeInterface stp_in ?_ | refine g_makeFunc stp_in ?_ | refine g_conv stp_in ?_ | refine g_pick stp_in ?_ | refine g_not stp_in ?_ | refine g_slice stp_in ?_ | refine g_sliceA stp_in ?_ | refine g_sliceNil stp_in ?_) <;> refine put_in ?_) | ((first | refine g_alloc stp_in own_in hS ?_ | refine g_box stp_in own_in hS ?_ | refine g_build0 stp_in own_in hS ?_ | refine g_build stp_in own_in hS ?_ | refine g_make stp_in own_in hS ?_); clear hS; intro b w hS; refine put_in ?_) | ((first | refine g_store1 stp_in own_in hS ?_ | refine g_storeR stp_in own_in hS ?_); clear hS; intro w hS; refine put_in ?_)) | ((fail_if_success (with_reducible refine cons_in ?_)); first | gi_step | (with_reducible refine wpIn_scope_wide ?_) | (with_reducible refine wpIn_label ?_) | rw [Exit.noGoto_normal] | rw [Exit.noGoto_ret] | rw [Exit.noGoto_exit]))
        exact hK _ hS
      case body =>
        rintro l0 k L W ⟨hk, rfl⟩ hIn hN
        have hlt := hN _ rfl
        have hSW := hSL.range hIn
        have hS := hIn.round
        have hm1 := hmay k hlt
        repeat' (first | ((with_reducible refine cons_in ?_); first | ((first | refine g_skip stp_in ?_ | refine g_move stp_in ?_ | refine g_assign stp_in ?_ | refine g_load1 stp_in own_in hS ?_ | refine g_loadR stp_in own_in hS ?_ | refine g_indexAddr stp_in ?_ | refine g_indexAddrA stp_in ?_ | refine g_len stp_in ?_ | refine g_cap stp_in ?_ | refine g_extract stp_in ?_ | refine g_add stp_in ?_ | refine g_sub stp_in ?_ | refine g_mul stp_in ?_ | refine g_quo stp_in ?_ | refine g_rem stp_in ?_ | refine g_cmp_t stp_in ?_ | refine g_cmp_f stp_in ?_ | refine g_cmp stp_in (fun hc => ?_) (fun hc => ?_) | refine g_neqNil stp_in ?_ | refine g_neqNil0 stp_in ?_ | refine g_eqlNil stp_in ?_ | refine g_eqlNil0 stp_in ?_ | refine g_fieldAddr stp_in ?_ | refine g_field1 stp_in ?_ | refine g_fieldR stp_in ?_ | refine g_eqlSlNil stp_in ?_ | refine g_neqSlNil stp_in ?_ | refine g_makeInterface stp_in ?_ | refine g_makeFunc stp_in ?_ | refine g_conv stp_in ?_ | refine g_pick stp_in ?_ | refine g_not stp_in ?_ | refine g_slice stp_in ?_ | refine g_sliceA stp_in ?_ | refine g_sliceNil stp_in ?_) <;> refine put_in ?_) | ((first | refine g_alloc stp_in own_in hS ?_ | refine g_box stp_in own_in hS ?_ | refine g_build0 stp_in own_in hS ?_ | refine g_build stp_in own_in hS ?_ | refine g_make stp_in own_in hS ?_); clear hS; intro b w hS; refine put_in ?_) | ((first | refine g_store1 stp_in own_in hS ?_ | refine g_storeR stp_in own_in hS ?_); clear hS; intro w hS; refine put_in ?_) | (refine g_callq stp_in own_in hS (holdsRef_c hm1 _ _ (hv.below (hSW.range hS).below) (by omega)) ?_; clear hS; intro w hS; refine put_in ?_)) | ((fail_if_success (with_reducible refine cons_in ?_)); first | gi_step | (with_reducible refine wpIn_scope_wide ?_) | (with_reducible refine wpIn_label ?_) | rw [Exit.noGoto_normal] | rw [Exit.noGoto_ret] | rw [Exit.noGoto_exit]))
        exact ⟨_, hS, by omega, by push_cast; rfl⟩
      case done =>
        rintro D N1 L W hm' ⟨hk, rfl⟩ hIn hD hD0
        obtain rfl : HL.length = N1 := Option.some.inj hm'
        have hDw : w0.heap.size ≤ D := Nat.le_trans hSL.below.size hD0
        have hSX := hSL.range hIn
        clear hS
        have hS : StD w0 D W _ := ⟨hSX, hD⟩
        clear hit hIn hmay hSL hSX
        obtain ⟨q, hq⟩ : ∃ q : Rg → Bool, (fun y : Rg => decide (holdsR ⟨l, h, t, s, g⟩ y.1)) = q := ⟨_, rfl⟩
        rw [hq] at hcnt
        repeat' (first | ((with_reducible refine cons_list ?_); first | ((first | refine g_skip stp_list ?_ | refine g_move stp_list ?_ | refine g_assign stp_list ?_ | refine g_load1 stp_list own_stD hS ?_ | refine g_loadR stp_list own_stD hS ?_ | refine g_indexAddr stp_list ?_ | refine g_indexAddrA stp_list ?_ | refine g_len stp_list ?_ | refine g_cap stp_list ?_ | refine g_extract stp_list ?_ | refine g_add stp_list ?_ | refine g_sub stp_list ?_ | refine g_mul stp_list ?_ | refine g_quo stp_list ?_ | refine g_rem stp_list ?_ | refine g_cmp_t stp_list ?_ | refine g_cmp_f stp_list ?_ | refine g_cmp stp_list (fun hc => ?_) (fun hc => ?_) | refine g_neqNil stp_list ?_ | refine g_neqNil0 stp_list ?_ | refine g_eqlNil stp_list ?_ | refine g_eqlNil0 stp_list ?_ | refine g_fieldAddr stp_list ?_ | refine g_field1 stp_list ?_ | refine g_fieldR stp_list ?_ | refine g_eqlSlNil stp_list ?_ | refine g_neqSlNil stp_list ?_ | refine g_makeInterface stp_list ?_ | refine g_makeFunc stp_list ?_ | refine g_conv stp_list ?_ | refine g_pick stp_list ?_ | refine g_not stp_list ?_ | refine g_slice stp_list ?_ | refine g_sliceA stp_list ?_ | refine g_sliceNil stp_list ?_) <;> refine put_in ?_) | ((first | refine g_alloc stp_list own_stD hS ?_ | refine g_box stp_list own_stD hS ?_ | refine g_build0 stp_list own_stD hS ?_ | refine g_build stp_list own_stD hS ?_ | refine g_make stp_list own_stD hS ?_); clear hS; intro b w hS; refine put_in ?_) | ((first | refine g_store1 stp_list own_stD hS ?_ | refine g_storeR stp_list own_stD hS ?_); clear hS; intro w hS; refine put_in ?_)) | ((fail_if_success (with_reducible refine cons_list ?_)); first | go_step | go_step3 | rw [Exit.noGoto_normal] | rw [Exit.noGoto_ret] | rw [Exit.noGoto_exit]))
        go_loopw [9, 44] (fun u9 u44 wr => ∃ k : Nat, k ≤ l.length ∧ u44 = .int .i64 (k : Int) ∧ u9 = .int .i64 (((l.take k).filter q).length : Int) ∧ StD w0 D wr [(b, #[.int .i64 (HL.length : Int)], 3), (b6, #[.bool false], 4), (b3, #[.slice p l.length c, .int .i64 h, .int .i64 t, .bool s, .int .i64 g], 24)]) (fun _ u44 _ => l.length - (intOf u44).toNat)
        case atStart => exact ⟨0, by omega, rfl, rfl, hS⟩
        case round =>
          obtain ⟨k, hk, rfl, rfl, hS⟩ := hrel
          by_cases hlt : k < l.length
          · obtain ⟨rb, o, cs, ty, fr, rfl, hb, hcell⟩ := hv.open_ (by omega)
            have q1 := csz_reg hcell hlt
            have hcut := cut_reg hcell hlt
            have hft := congrArg List.length (filt_take (q := q) hlt)
            have hqk : q (l.getD k (0, 0)) = decide (holdsR ⟨l, h, t, s, g⟩ (l.getD k (0, 0)).1) := by rw [← hq]
            rw [hqk] at hft
            obtain ⟨x1, hx1⟩ : ∃ x, (l.getD k (0, 0)).1 = x := ⟨_, rfl⟩
            rw [hx1] at hcut hft
            obtain ⟨n, hn⟩ : ∃ n, ((l.take k).filter q).length = n := ⟨_, rfl⟩
            have hn4 : n ≤ 4 := by
              rw [← hn]
              exact Nat.le_trans (List.length_filter_le ..) (by rw [List.length_take]; omega)
            rw [hn]
            rw [List.length_append, hn] at hft
            obtain ⟨B, hB⟩ : ∃ B, decide (holdsR ⟨l, h, t, s, g⟩ x1) = B := ⟨_, rfl⟩
            rw [hB] at hft
            cases B with
            | true =>
              repeat' (first | ((with_reducible refine cons_list ?_); first | ((first | refine g_skip stp_list ?_ | refine g_move stp_list ?_ | refine g_assign stp_list ?_ | refine g_load1 stp_list own_stD hS ?_ (hv := by first | rfl | exact bvs_getLA | (rw [Array.getElem?_toList]; exact hcut)) | refine g_load1F stp_list (by first | exact ((hS).far hb).1) ?_ (hv := by first | rfl | exact bvs_getLA | (rw [Array.getElem?_toList]; exact hcut)) | refine g_loadR stp_list own_stD hS ?_ (hv := by first | exact cut_whole _ _ (by (try simp only [csz_setc, csz_bvs, csz_list, List.length_append, List.length_set, zs_len, List.length_take, List.length_drop, List.length_cons, List.length_nil]); first | done | rfl | omega) | (exact hcut) | rfl) | refine g_loadRF stp_list (by first | exact ((hS).far hb).1) ?_ (hv := by first | exact cut_whole _ _ (by (try simp only [csz_setc, csz_bvs, csz_list, List.length_append, List.length_set, zs_len, List.length_take, List.length_drop, List.length_cons, List.length_nil]); first | done | rfl | omega) | (exact hcut) | rfl) | refine g_indexAddr stp_list ?_ | refine g_indexAddrA stp_list ?_ | refine g_len stp_list ?_ | refine g_cap stp_list ?_ | refine g_extract stp_list ?_ | refine g_add stp_list ?_ | refine g_sub stp_list ?_ | refine g_mul stp_list ?_ | refine g_quo stp_list ?_ | refine g_rem stp_list ?_ | refine g_cmp_t stp_list ?_ | refine g_cmp_f stp_list ?_ | refine g_cmp stp_list (fun hc => ?_) (fun hc => ?_) | refine g_neqNil stp_list ?_ | refine g_neqNil0 stp_list ?_ | refine g_eqlNil stp_list ?_ | refine g_eqlNil0 stp_list ?_ | refine g_fieldAddr stp_list ?_ | refine g_field1 stp_list ?_ (hv' := by first | rfl | exact bvs_getLA | (rw [Array.getElem?_toList]; exact hcut)) | refine g_fieldR stp_list ?_ | refine g_eqlSlNil stp_list ?_ | refine g_neqSlNil stp_list ?_ | refine g_makeInterface stp_list ?_ | refine g_makeFunc stp_list ?_ | refine g_conv stp_list ?_ | refine g_pick stp_list ?_ | refine g_not stp_list ?_ | refine g_slice stp_list ?_ | refine g_sliceA stp_list ?_ | refine g_sliceNil stp_list ?_ | refine g_nilCheck stp_list ?_ | refine g_builtS stp_list ?_ | refine g_builtA stp_list ?_) <;> refine put_in ?_) | ((first | refine g_alloc stp_list own_stD hS ?_ | refine g_box stp_list own_stD hS ?_ | refine g_build0 stp_list own_stD hS ?_ | refine g_build stp_list own_stD hS ?_ | refine g_make stp_list own_stD hS ?_); clear hS; intro b w hS; refine put_in ?_) | ((first | refine g_store1 stp_list own_stD hS ?_ | refine g_storeR stp_list own_stD hS ?_ | refine g_storeRO stp_list own_stD hS ?_); clear hS; intro w hS; refine put_in ?_) | (refine g_callq stp_list own_stD hS (holdsRef_c hB _ _ (hv.below hS.1.below) (by omega)) ?_; clear hS; intro w hS; refine put_in ?_)) | ((fail_if_success (with_reducible refine cons_list ?_)); first | go_step | go_step3 | rw [Exit.noGoto_normal] | rw [Exit.noGoto_ret] | rw [Exit.noGoto_exit]))
              go_roundw
              case rel => exact ⟨k + 1, by omega, by push_cast; rfl, by rw [hft]; simp, own_stD.drop hS⟩
              case measure => simp [intOf]; omega
            | false =>
              repeat' (first | ((with_reducible refine cons_list ?_); first | ((first | refine g_skip stp_list ?_ | refine g_move stp_list ?_ | refine g_assign stp_list ?_ | refine g_load1 stp_list own_stD hS ?_ (hv := by first | rfl | exact bvs_getLA | (rw [Array.getElem?_toList]; exact hcut)) | refine g_load1F stp_list (by first | exact ((hS).far hb).1) ?_ (hv := by first | rfl | exact bvs_getLA | (rw [Array.getElem?_toList]; exact hcut)) | refine g_loadR stp_list own_stD hS ?_ (hv := by first | exact cut_whole _ _ (by (try simp only [csz_setc, csz_bvs, csz_list, List.length_append, List.length_set, zs_len, List.length_take, List.length_drop, List.length_cons, List.length_nil]); first | done | rfl | omega) | (exact hcut) | rfl) | refine g_loadRF stp_list (by first | exact ((hS).far hb).1) ?_ (hv := by first | exact cut_whole _ _ (by (try simp only [csz_setc, csz_bvs, csz_list, List.length_append, List.length_set, zs_len, List.length_take, List.length_drop, List.length_cons, List.length_nil]); first | done | rfl | omega) | (exact hcut) | rfl) | refine g_indexAddr stp_list ?_ | refine g_indexAddrA stp_list ?_ | refine g_len stp_list ?_ | refine g_cap stp_list ?_ | refine g_extract stp_list ?_ | refine g_add stp_list ?_ | refine g_sub stp_list ?_ | refine g_mul stp_list ?_ | refine g_quo stp_list ?_ | refine g_rem stp_list ?_ | refine g_cmp_t stp_list ?_ | refine g_cmp_f stp_list ?_ | refine g_cmp stp_list (fun hc => ?_) (fun hc => ?_) | refine g_neqNil stp_list ?_ | refine g_neqNil0 stp_list ?_ | refine g_eqlNil stp_list ?_ | refine g_eqlNil0 stp_list ?_ | refine g_fieldAddr stp_list ?_ | refine g_field1 stp_list ?_ (hv' := by first | rfl | exact bvs_getLA | (rw [Array.getElem?_toList]; exact hcut)) | refine g_fieldR stp_list ?_ | refine g_eqlSlNil stp_list ?_ | refine g_neqSlNil stp_list ?_ | refine g_makeInterface stp_list ?_ | refine g_makeFunc stp_list ?_ | refine g_conv stp_list ?_ | refine g_pick stp_list ?_ | refine g_not stp_list ?_ | refine g_slice stp_list ?_ | refine g_sliceA stp_list ?_ | refine g_sliceNil stp_list ?_ | refine g_nilCheck stp_list ?_ | refine g_builtS stp_list ?_ | refine g_builtA stp_list ?_) <;> refine put_in ?_) | ((first | refine g_alloc stp_list own_stD hS ?_ | refine g_box stp_list own_stD hS ?_ | refine g_build0 stp_list own_stD hS ?_ | refine g_build stp_list own_stD hS ?_ | refine g_make stp_list own_stD hS ?_); clear hS; intro b w hS; refine put_in ?_) | ((first | refine g_store1 stp_list own_stD hS ?_ | refine g_storeR stp_list own_stD hS ?_ | refine g_storeRO stp_list own_stD hS ?_); clear hS; intro w hS; refine put_in ?_) | (refine g_callq stp_list own_stD hS (holdsRef_c hB _ _ (hv.below hS.1.below) (by omega)) ?_; clear hS; intro w hS; refine put_in ?_)) | ((fail_if_success (with_reducible refine cons_list ?_)); first | go_step | go_step3 | rw [Exit.noGoto_normal] | rw [Exit.noGoto_ret] | rw [Exit.noGoto_exit]))
              go_roundw
              case rel => exact ⟨k + 1, by omega, by push_cast; rfl, by rw [hft]; simp, own_stD.drop hS⟩
              case measure => simp [intOf]; omega
          · obtain rfl : k = l.length := by omega
            rw [List.take_length, ← hcnt]
            obtain ⟨B1, hB1⟩ : ∃ B1, decide (allowedP ⟨l, h, t, s, g⟩ who ac) = B1 := ⟨_, rfl⟩
            repeat' (first | ((with_reducible refine cons_list ?_); first | ((first | refine g_skip stp_list ?_ | refine g_move stp_list ?_ | refine g_assign stp_list ?_ | refine g_load1 stp_list own_stD hS ?_ | refine g_loadR stp_list own_stD hS ?_ | refine g_indexAddr stp_list ?_ | refine g_indexAddrA stp_list ?_ | refine g_len stp_list ?_ | refine g_cap stp_list ?_ | refine g_extract stp_list ?_ | refine g_add stp_list ?_ | refine g_sub stp_list ?_ | refine g_mul stp_list ?_ | refine g_quo stp_list ?_ | refine g_rem stp_list ?_ | refine g_cmp_t stp_list ?_ | refine g_cmp_f stp_list ?_ | refine g_cmp stp_list (fun hc => ?_) (fun hc => ?_) | refine g_neqNil stp_list ?_ | refine g_neqNil0 stp_list ?_ | refine g_eqlNil stp_list ?_ | refine g_eqlNil0 stp_list ?_ | refine g_fieldAddr stp_list ?_ | refine g_field1 stp_list ?_ | refine g_fieldR stp_list ?_ | refine g_eqlSlNil stp_list ?_ | refine g_neqSlNil stp_list ?_ | refine g_makeInterface stp_list ?_ | refine g_makeFunc stp_list ?_ | refine g_conv stp_list ?_ | refine g_pick stp_list ?_ | refine g_not stp_list ?_ | refine g_slice stp_list ?_ | refine g_sliceA stp_list ?_ | refine g_sliceNil stp_list ?_) <;> refine put_in ?_) | ((first | refine g_alloc stp_list own_stD hS ?_ | refine g_box stp_list own_stD hS ?_ | refine g_build0 stp_list own_stD hS ?_ | refine g_build stp_list own_stD hS ?_ | refine g_make stp_list own_stD hS ?_); clear hS; intro b w hS; refine put_in ?_) | ((first | refine g_store1 stp_list own_stD hS ?_ | refine g_storeR stp_list own_stD hS ?_); clear hS; intro w hS; refine put_in ?_)) | ((fail_if_success (with_reducible refine cons_list ?_)); first | go_step | go_step3 | rw [Exit.noGoto_normal] | rw [Exit.noGoto_ret] | rw [Exit.noGoto_exit]))
            refine region_mono_lit 14 (by kernel_rfl) (by kernel_rfl) ?_
            dsimp only [List.take, List.drop]
            iterate 14 (first | (refine wpM_skip (fun _ => rfl) ?_; simp only [Act.put, List.setIfInBounds_toArray, List.set_cons_zero, List.set_cons_succ]) | (refine wpM_alloc rfl (fun _ => rfl) _ (fun w => r_alloc (a := ⟨#[], []⟩) rfl (by infer_instance)) ?_; simp only [Act.put, List.setIfInBounds_toArray, List.set_cons_zero, List.set_cons_succ]) | (refine wpM_want (fun _ => rfl) (fun K hK => ?_); apply Exists.intro; refine ⟨fun pB w' hw' hF => ?_, hK _ _ ?_⟩; (focus (have hZ := (own_stD).call hS hw'; first | exact (g_qcall (allowed_c hB1 hok (fun hh => (htt hh).2) _ _ (hv.below hZ.1.below) (by omega))) | exact (g_qcall (allowedRef_c hB1 hok htt _ _ (hv.below hZ.1.below) (by omega))) | exact (q_val (r_eqB (by rfl) (by rfl) (by rfl) (by rfl))) | exact q_move | exact q_assign | exact q_load1 own_stD hZ | exact q_loadR own_stD hZ | exact q_indexAddr | exact q_indexAddrA | exact q_len | exact q_cap | exact q_extract | exact q_add | exact q_sub | exact q_mul | exact q_quo | exact q_rem | exact q_cmp_t | exact q_cmp_f | exact q_neqNil | exact q_neqNil0 | exact q_eqlNil | exact q_eqlNil0 | exact q_fieldAddr | exact q_field1 | exact q_fieldR | exact q_eqlSlNil | exact q_neqSlNil | exact q_makeInterface | exact q_makeFunc | exact q_conv | exact q_pick | exact q_not | exact q_slice | exact q_sliceA | exact q_sliceNil)); clear hK K; simp only [Act.put, List.setIfInBounds_toArray, List.set_cons_zero, List.set_cons_succ]))
            refine wpM_nil ?_
            intro pB w hcq hfq hnq
            replace hS := (own_stD).news hS hcq _ (by decide) hfq hnq
            first | simp only [List.map_nil, List.nil_append] at hS | simp only [List.map_cons, List.map_nil, List.cons_append, List.nil_append] at hS
            clear hcq hfq hnq
            try dsimp only
            repeat' (first | ((with_reducible refine cons_list ?_); first | ((first | refine g_skip stp_list ?_ | refine g_move stp_list ?_ | refine g_assign stp_list ?_ | refine g_load1 stp_list own_stD hS ?_ | refine g_loadR stp_list own_stD hS ?_ | refine g_indexAddr stp_list ?_ | refine g_indexAddrA stp_list ?_ | refine g_len stp_list ?_ | refine g_cap stp_list ?_ | refine g_extract stp_list ?_ | refine g_add stp_list ?_ | refine g_sub stp_list ?_ | refine g_mul stp_list ?_ | refine g_quo stp_list ?_ | refine g_rem stp_list ?_ | refine g_cmp_t stp_list ?_ | refine g_cmp_f stp_list ?_ | refine g_cmp stp_list (fun hc => ?_) (fun hc => ?_) | refine g_neqNil stp_list ?_ | refine g_neqNil0 stp_list ?_ | refine g_eqlNil stp_list ?_ | refine g_eqlNil0 stp_list ?_ | refine g_fieldAddr stp_list ?_ | refine g_field1 stp_list ?_ | refine g_fieldR stp_list ?_ | refine g_eqlSlNil stp_list ?_ | refine g_neqSlNil stp_list ?_ | refine g_makeInterface stp_list ?_ | refine g_makeFunc stp_list ?_ | refine g_conv stp_list ?_ | refine g_pick stp_list ?_ | refine g_not stp_list ?_ | refine g_slice stp_list ?_ | refine g_sliceA stp_list ?_ | refine g_sliceNil stp_list ?_) <;> refine put_in ?_) | ((first | refine g_alloc stp_list own_stD hS ?_ | refine g_box stp_list own_stD hS ?_ | refine g_build0 stp_list own_stD hS ?_ | refine g_build stp_list own_stD hS ?_ | refine g_make stp_list own_stD hS ?_); clear hS; intro b w hS; refine put_in ?_) | ((first | refine g_store1 stp_list own_stD hS ?_ | refine g_storeR stp_list own_stD hS ?_); clear hS; intro w hS; refine put_in ?_)) | ((fail_if_success (with_reducible refine cons_list ?_)); first | go_step | go_step3 | rw [Exit.noGoto_normal] | rw [Exit.noGoto_ret] | rw [Exit.noGoto_exit]))
            refine postMR (.inl rfl) rfl hS.2 ?_
            have hS3 := hS.shut hDw
            have hc := (hS3.at 1 rfl).2.1 0
            exact bodyPost_ret (v := .bool true) (by simp [results, Try.results5, go_sem, hc]) rfl ⟨rfl, hS3.below⟩
      case stop =>
        rintro D c L W hF'
        exact hF'.elim
    · have hGd := decide_eq_false hG
      have hCk : ∀ (w1 : World), RegsAt w1 (.slice p l.length c) l → Calls Try.prog 14 #[.agg #[.slice p l.length c, .int .i64 h, .int .i64 t, .bool s, .int .i64 g]] w1 fun e w' => e = .returned (errV 2) ∧ Below w1.heap.size w1 w' := fun w1 hw => by
        have := check_any l h t g s _ w1 hw (by omega)
        rw [hGd] at this
        exact this
      go_enter Try.func5, Try.ntmps5
      repeat' (first | ((with_reducible refine cons_list ?_); first | ((first | refine g_skip stp_list ?_ | refine g_move stp_list ?_ | refine g_assign stp_list ?_ | refine g_load1 stp_list own_st hS ?_ | refine g_loadR stp_list own_st hS ?_ | refine g_indexAddr stp_list ?_ | refine g_indexAddrA stp_list ?_ | refine g_len stp_list ?_ | refine g_cap stp_list ?_ | refine g_extract stp_list ?_ | refine g_add stp_list ?_ | refine g_sub stp_list ?_ | refine g_mul stp_list ?_ | refine g_quo stp_list ?_ | refine g_rem stp_list ?_ | refine g_cmp_t stp_list ?_ | refine g_cmp_f stp_list ?_ | refine g_cmp stp_list (fun hc => ?_) (fun hc => ?_) | refine g_neqNil stp_list ?_ | refine g_neqNil0 stp_list ?_ | refine g_eqlNil stp_list ?_ | refine g_eqlNil0 stp_list ?_ | refine g_fieldAddr stp_list ?_ | refine g_field1 stp_list ?_ | refine g_fieldR stp_list ?_ | refine g_eqlSlNil stp_list ?_ | refine g_neqSlNil stp_list ?_ | refine g_makeInterface stp_list ?_ | refine g_makeFunc stp_list ?_ | refine g_conv stp_list ?_ | refine g_pick stp_list ?_ | refine g_not stp_list ?_ | refine g_slice stp_list ?_ | refine g_sliceA stp_list ?_ | refine g_sliceNil stp_list ?_ | refine g_nilCheck stp_list ?_ | refine g_builtS stp_list ?_ | refine g_builtA stp_list ?_) <;> refine put_in ?_) | ((first | refine g_alloc stp_list own_st hS ?_ | refine g_box stp_list own_st hS ?_ | refine g_build0 stp_list own_st hS ?_ | refine g_build stp_list own_st hS ?_ | refine g_make stp_list own_st hS ?_); clear hS; intro b w hS; refine put_in ?_) | ((first | refine g_store1 stp_list own_st hS ?_ | refine g_storeR stp_list own_st hS ?_ | refine g_storeRO stp_list own_st hS ?_); clear hS; intro w hS; refine put_in ?_) | (refine g_callq stp_list own_st hS (alive_any _) ?_; clear hS; intro w hS; refine put_in ?_) | (refine g_callq stp_list own_st hS (goodRef_c hGd _ _ (hv.below hS.below) (by omega)) ?_; clear hS; intro w hS; refine put_in ?_) | (refine g_callq stp_list own_st hS (hCk _ (hv.below hS.below)) ?_; clear hS; intro w hS; refine put_in ?_) | (refine g_callq stp_list own_st hS (is_same2 2 _) ?_; clear hS; intro w hS; refine put_in ?_)) | ((fail_if_success (with_reducible refine cons_list ?_)); first | go_step | go_step3 | rw [Exit.noGoto_normal] | rw [Exit.noGoto_ret] | rw [Exit.noGoto_exit]))
      have hc := (hS.at 0 rfl).2.1 0
      exact bodyPost_ret (v := .bool true) (by simp [results, Try.results5, go_sem, hc]) rfl ⟨rfl, hS.below⟩
  · go_enter Try.func5, Try.ntmps5
    repeat' (first | ((with_reducible refine cons_list ?_); first | ((first | refine g_skip stp_list ?_ | refine g_move stp_list ?_ | refine g_assign stp_list ?_ | refine g_load1 stp_list own_st hS ?_ | refine g_loadR stp_list own_st hS ?_ | refine g_indexAddr stp_list ?_ | refine g_indexAddrA stp_list ?_ | refine g_len stp_list ?_ | refine g_cap stp_list ?_ | refine g_extract stp_list ?_ | refine g_add stp_list ?_ | refine g_sub stp_list ?_ | refine g_mul stp_list ?_ | refine g_quo stp_list ?_ | refine g_rem stp_list ?_ | refine g_cmp_t stp_list ?_ | refine g_cmp_f stp_list ?_ | refine g_cmp stp_list (fun hc => ?_) (fun hc => ?_) | refine g_neqNil stp_list ?_ | refine g_neqNil0 stp_list ?_ | refine g_eqlNil stp_list ?_ | refine g_eqlNil0 stp_list ?_ | refine g_fieldAddr stp_list ?_ | refine g_field1 stp_list ?_ | refine g_fieldR stp_list ?_ | refine g_eqlSlNil stp_list ?_ | refine g_neqSlNil stp_list ?_ | refine g_makeInterface stp_list ?_ | refine g_makeFunc stp_list ?_ | refine g_conv stp_list ?_ | refine g_pick stp_list ?_ | refine g_not stp_list ?_ | refine g_slice stp_list ?_ | refine g_sliceA stp_list ?_ | refine g_sliceNil stp_list ?_ | refine g_nilCheck stp_list ?_ | refine g_builtS stp_list ?_ | refine g_builtA stp_list ?_) <;> refine put_in ?_) | ((first | refine g_alloc stp_list own_st hS ?_ | refine g_box stp_list own_st hS ?_ | refine g_build0 stp_list own_st hS ?_ | refine g_build stp_list own_st hS ?_ | refine g_make stp_list own_st hS ?_); clear hS; intro b w hS; refine put_in ?_) | ((first | refine g_store1 stp_list own_st hS ?_ | refine g_storeR stp_list own_st hS ?_ | refine g_storeRO stp_list own_st hS ?_); clear hS; intro w hS; refine put_in ?_) | (refine g_callq stp_list own_st hS (alive_any _) ?_; clear hS; intro w hS; refine put_in ?_)) | ((fail_if_success (with_reducible refine cons_list ?_)); first | go_step | go_step3 | rw [Exit.noGoto_normal] | rw [Exit.noGoto_ret] | rw [Exit.noGoto_exit]))
    have hc := (hS.at 0 rfl).2.1 0
    exact bodyPost_ret (v := .bool true) (by simp [results, Try.results5, go_sem, hc]) rfl ⟨rfl, hS.below⟩
end Go.Proofs.Ytknkkcbihaojhac

namespace Go.Proofs.Ytknkkcbihaojhac
open Go.ChangeShapes Go.WideShapes Go.ChangeAt Go.RowKit
theorem trod_gen {P : Program} {H : Type} {enc : TypeId × Value → H} {w : World} {base fuel : Nat} {sp : Nat → Bool} {held : Bool} {t e n : Nat} {cs : List Value} {x : DataW H × List MemPlace} {α : Type} (z : α) (f : α → List Value)
    (ht : P.underlying t = some (.slice e)) (hc : P.cellsOf e = n) (hn : 0 < n) (hlen : ∀ a, (f a).length = n) (hopen : ∀ fuel cs x, DataW.trod enc P w base sp held fuel e cs = some x → cs.length = n → ∃ a, cs = f a)
    (hf : DataW.trod enc P w base sp held fuel t cs = some x) :
    ∃ (v : Value) (l : List α), cs = [v] ∧ (∃ p c, v = .slice p l.length c ∧ l.length ≤ c ∧ (p = none → c = 0) ∧ (l ≠ [] → ∃ b o cs t fr, p = some ⟨b, o, none⟩ ∧ blk w b = some (.cells cs t fr) ∧ ∀ i x, (l.flatMap f)[i]? = some x → cs.toList[o + i]? = some x)) ∧ l.length ≤ maxLen := by
  have hv : ∃ a n c, cs = [.slice a n c] := by
    rcases Go.Deep.open_slice ht hf with ⟨hcs, _⟩ | ⟨a, len, cap, m, n2, D, Pl, hcs, _⟩
    · exact ⟨_, _, _, hcs⟩
    · exact ⟨_, _, _, hcs⟩
  obtain ⟨a, m, c, rfl⟩ := hv
  obtain ⟨l, h1, h2⟩ := open_gen (v := .slice a m c) (d := x.1) (p := x.2) z f ht hc hn hlen hopen ⟨_, _, _, rfl⟩ ⟨fuel, hf⟩
  exact ⟨_, l, rfl, h1, h2⟩
theorem two_parts {L : List Value} {a b : Value} (h : L.length = 2) (h0 : (L.drop 0).take 1 = [a]) (h1 : (L.drop 1).take 1 = [b]) : L = [a, b] := by
  match L, h with
  | [a', b'], _ => simp at h0 h1; simp [h0, h1]
theorem fiveR_parts {L : List Value} {a b c d e : Value} (h : L.length = 5) (h0 : (L.drop 0).take 1 = [a]) (h1 : (L.drop 1).take 1 = [b]) (h2 : (L.drop 2).take 1 = [c]) (h3 : (L.drop 3).take 1 = [d]) (h4 : (L.drop 4).take 1 = [e]) : L = [a, b, c, d, e] := by
  match L, h with
  | [a', b', c', d', e'], _ => simp at h0 h1 h2 h3 h4; simp [h0, h1, h2, h3, h4]
def cellsG (g : Rg) : List Value := [.int .i64 g.1, .int .i64 g.2]
set_option maxRecDepth 100000
theorem cells_reg : Try.prog.cellsOf 39 = 2 := by kernel_rfl
theorem cells_resv : Try.prog.cellsOf 24 = 5 := by kernel_rfl
theorem open_reg {H : Type} {enc : TypeId × Value → H} {w : World} {base fuel : Nat} {sp : Nat → Bool} {held : Bool} {cs : List Value} {x : DataW H × List MemPlace}
    (hf : DataW.trod enc Try.prog w base sp held fuel 39 cs = some x) (hsz : cs.length = 2) : ∃ a : Rg, cs = cellsG a := by
  obtain ⟨xs, n, rfl, hx, hl, hxl, hi⟩ := DataW.trod_struct Try.underlying39 hf
  have hxl5 : xs.length = 2 := hxl
  have g (i : Nat) (h : i < 2) : xs[i]? = some xs[i] := List.getElem?_eq_getElem (by omega)
  have h0 := (hi 0 _ rfl).trans (g 0 (by omega))
  have h1 := (hi 1 _ rfl).trans (g 1 (by omega))
  obtain ⟨x0, e0, _⟩ := trod_int1 Try.underlying3 h0
  obtain ⟨x1, e1, _⟩ := trod_int1 Try.underlying3 h1
  exact ⟨(x0, x1), two_parts hsz e0 e1⟩
theorem open_resv {H : Type} {enc : TypeId × Value → H} {w W : World} {r : Reach} {b0 base : Nat} {sp : Nat → Bool} {held : Bool} {v : Value} {d : DataW H} {p : List MemPlace}
    (hv : Value.okWide Try.prog W r b0 24 v) (ht : DataW.Trod enc Try.prog w base sp held 24 v d p) :
    ∃ (rv : Value) (l : List Rg) (h t g : Int) (s : Bool), RegsAt w rv l ∧ l.length ≤ maxLen ∧ v = .agg #[rv, .int .i64 h, .int .i64 t, .bool s, .int .i64 g] := by
  have hu := Try.underlying24
  obtain ⟨cs, rfl, hsz⟩ := okWide_struct hu hv
  rw [cells_resv] at hsz
  obtain ⟨fuel, hf⟩ := ht
  obtain ⟨xs, n, rfl, hx, hl, hxl, hi⟩ := DataW.trod_struct hu hf
  have hxl5 : xs.length = 5 := hxl
  have g (i : Nat) (h : i < 5) : xs[i]? = some xs[i] := List.getElem?_eq_getElem (by omega)
  have h0 := (hi 0 _ rfl).trans (g 0 (by omega))
  have h1 := (hi 1 _ rfl).trans (g 1 (by omega))
  have h2 := (hi 2 _ rfl).trans (g 2 (by omega))
  have h3 := (hi 3 _ rfl).trans (g 3 (by omega))
  have h4 := (hi 4 _ rfl).trans (g 4 (by omega))
  obtain ⟨rv, l, e0, B0, m0⟩ := trod_gen (0, 0) cellsG Try.underlying22 cells_reg (by omega) (fun _ => rfl) (fun _ _ _ hf hl => open_reg hf hl) h0
  obtain ⟨y1, e1, _⟩ := trod_int1 Try.underlying3 h1
  obtain ⟨y2, e2, _⟩ := trod_int1 Try.underlying3 h2
  obtain ⟨y3, e3⟩ := trod_bool1 Try.underlying4 h3
  obtain ⟨y4, e4, _⟩ := trod_int1 Try.underlying3 h4
  refine ⟨rv, l, y1, y2, y4, y3, B0, m0, ?_⟩
  have hL := fiveR_parts (L := cs.toList) (by simpa using hsz) e0 e1 e2 e3 e4
  rw [← Array.toArray_toList (xs := cs), hL]
end Go.Proofs.Ytknkkcbihaojhac

namespace Go.Proofs.Ytknkkcbihaojhac
open Go.ChangeShapes Go.WideShapes Go.ChangeAt Go.RowKit

theorem Try.own : ownKnob Try.prog.godebug = none := by kernel_rfl
theorem Try.laidOut : laidOutB Try.prog = true := by kernel_rfl

set_option maxRecDepth 100000 in
theorem resvAllows_lifted (os : Os) (started : os.Started) (H : Type) (enc : TypeId × Value → H) :
    ReturnsInHanded {} Try.checked os 5 .any (Rows.resvAllowsSpec.pre6 enc Try.prog Try.f5 Rows.resvAllowsRow.domain false) (Rows.resvAllowsSpec.post enc Try.prog Try.f5 false true false false) := by
  refine law_lift (C := Try.checked) Try.own started (by kernel_rfl) Try.func5
    (ChangeSpec.witness6 (enc := enc) (C := Try.checked) false ⟨#[], #[.agg #[.slice none 0 0, .int .i64 0, .int .i64 0, .bool false, .int .i64 0], .int .i64 0, .int .i64 0], []⟩ 8 (by kernel_rfl) (by kernel_rfl) (by kernel_rfl) (by kernel_rfl))
    rfl (by kernel_rfl) Try.underlying4 (fun ds h => by match ds, h with | [a, b, c], _ => exact ⟨rfl, rfl, rfl⟩) Try.laidOut (by kernel_rfl) ?_
  intro W base args ds p hval0 hA0 hlt hsz0
  have hval : ∀ (j : Nat) t v, Try.f5.params[j]? = some t → args[j]? = some v → Value.okWide Try.prog W .any base t v := hval0
  have hA : DataW.TrodAll enc Try.prog W 0 (fun _ => true) true Try.f5.params.toList args.toList ds p := hA0
  have hsz : (DataW.weightsEach Try.prog Try.f5.params.toList ds).all (· ≤ reachBytes) = true := hsz0
  rw [Try.params5] at hA hval hsz
  obtain ⟨v0, v1, v2, d0, d1, d2, p0, p1, p2, rfl, rfl, rfl, h0, h1, h2⟩ := trodAll_three hA
  obtain ⟨x1, rfl, rfl, rfl, wx1⟩ := open_int Try.underlying3 (hval 1 _ v1 rfl rfl) h1
  obtain ⟨x2, rfl, rfl, rfl, wx2⟩ := open_int Try.underlying3 (hval 2 _ v2 rfl rfl) h2
  obtain ⟨rv, l, h, t, g, s, B0, m0, rfl⟩ := open_resv (hval 0 _ v0 rfl rfl) h0
  exact resvAllows_any l h t g x1 x2 s rv W B0

theorem resvAllows_holds : Rows.ResvAllowsSaid :=
  OpenClaim.holds_of_wide 5 Try.f5 rfl rfl rfl rfl rfl rfl rfl ⟨rfl, rfl, rfl, rfl, rfl⟩ rfl rfl rfl rfl rfl (by kernel_rfl) Try.func5 (by kernel_rfl)
    (of_decide_eq_true (by kernel_rfl)) (by unfold Func.isWrapper; rw [if_neg (by decide +kernel)]; exact ⟨rfl, rfl⟩)
    (fun os started H enc _ => resvAllows_lifted os started H enc)

end Go.Proofs.Ytknkkcbihaojhac
