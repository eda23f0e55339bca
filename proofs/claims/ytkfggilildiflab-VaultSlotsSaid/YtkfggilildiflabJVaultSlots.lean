/-
  The law VaultSlots: for every key, all bytes and every sector it answers true. No condition.
-/
import Derived.Test.YtkfggilildiflabRows
import Derived.Test.YtkfggilildiflabJF0

namespace Go.Proofs.Ytkfggilildiflab
open Go.ChangeShapes Go.WideShapes Go.ChangeAt Go.RowKit
attribute [local irreducible] wpList wpListIn Oper.quietAt wpM
attribute [local irreducible] xorL sboxL subB sealV openV
set_option maxRecDepth 100000 in
set_option maxHeartbeats 4000000 in
theorem vs_on (key unit c : List UInt8) (hc : c.length = 128) (kv uv : Value) (w0 : World) (hv : BytesAt w0 kv key) (hu : BytesAt w0 uv unit) (h1 : key.length ≤ 1000) (hl : unit.length = 64) (h : key.length = 16 ∨ key.length = 32) (R : List UInt8) (hR : R.length = 64) (hRc : wrapV key R ++ zs 56 = c) (hT : ∀ w, BytesAt w kv key → Calls Try.prog 37 #[kv, .agg (bvs c)] w fun e w' => e = .returned (.tuple #[.agg (bvs R), .bool true]) ∧ Below w.heap.size w w') :
    Calls Try.prog 10 #[kv, uv, .agg (bvs c)] w0 fun e w' => e = .returned (.bool true) ∧ Below w0.heap.size w0 w' := by
  obtain ⟨p, cp, rfl, hcp⟩ := hv.slice
  obtain ⟨pu, cu, rfl, hcu⟩ := hu.slice
  have s1 : csz (bvs c) = 128 := by rw [csz_bvs, hc]
  have hS := St.start w0
  have lW := wrapV_len (key := key) (l := unit) h (by omega) (by omega)
  rw [hl] at lW
  have lX : (wrapV key unit ++ zs 56).length = 128 := by rw [List.length_append, lW, zs_len]
  have hX1 := fun (w : World) hw => slot_good key unit h hl (.slice p key.length cp) w hw
  have hX2 := fun (w : World) hw => refSlot_good key unit h hl (.slice p key.length cp) w hw
  have hX3 := fun (w : World) hw => take_on key (wrapV key unit ++ zs 56) unit h lX (by rw [List.take_left' lW, unwrap_wrap h (by omega) (by omega)]) (by rw [List.take_left' lW, unwrap_wrap h (by omega) (by omega)]) true (by simp) (.slice p key.length cp) w hw
  simp only [if_true] at hX3
  have hX4 := fun (w : World) hw => refSlot_good key R h hR (.slice p key.length cp) w hw
  rw [hRc] at hX4
  have s7 : csz (bvs R) = 64 := by rw [csz_bvs, hR]
  clear hRc
  clear lW
  generalize wrapV key unit ++ zs 56 = X at *
  have s6 : csz (bvs X) = 128 := by rw [csz_bvs, lX]
  have l1 : (unit.take 32).length = 32 := by rw [List.length_take]; omega
  have l2 : (unit.drop 32).length = 32 := by rw [List.length_drop]; omega
  have s2 : csz (bvs unit) = 64 := by rw [csz_bvs, hl]
  have z2 := zs_len 64
  have s4 : csz (bvs (zs 64)) = 64 := by rw [csz_bvs, zs_len]
  rw [hl] at hcu hu ⊢
  go_enter Try.func10, Try.ntmps10
  repeat' (first | ((with_reducible refine cons_list ?_); first | ((first | refine g_skip stp_list ?_ | refine g_move stp_list ?_ | refine g_assign stp_list ?_ | refine g_load1 stp_list own_st hS ?_ | refine g_loadR stp_list own_st hS ?_ | refine g_indexAddr stp_list ?_ | refine g_indexAddrA stp_list ?_ | refine g_len stp_list ?_ | refine g_cap stp_list ?_ | refine g_extract stp_list ?_ | refine g_add stp_list ?_ | refine g_sub stp_list ?_ | refine g_mul stp_list ?_ | refine g_quo stp_list ?_ | refine g_rem stp_list ?_ | refine g_cmp_t stp_list ?_ | refine g_cmp_f stp_list ?_ | refine g_cmp stp_list (fun hc => ?_) (fun hc => ?_) | refine g_neqNil stp_list ?_ | refine g_neqNil0 stp_list ?_ | refine g_eqlNil stp_list ?_ | refine g_eqlNil0 stp_list ?_ | refine g_fieldAddr stp_list ?_ | refine g_field1 stp_list ?_ | refine g_fieldR stp_list ?_ | refine g_eqlSlNil stp_list ?_ | refine g_neqSlNil stp_list ?_ | refine g_makeInterface stp_list ?_ | refine g_makeFunc stp_list ?_ | refine g_conv stp_list ?_ | refine g_pick stp_list ?_ | refine g_not stp_list ?_ | refine g_slice stp_list ?_ | refine g_sliceA stp_list ?_ | refine g_sliceNil stp_list ?_ | refine g_nilCheck stp_list ?_ | refine g_builtS stp_list ?_ | refine g_builtA stp_list ?_) <;> refine put_in ?_) | ((first | refine g_alloc stp_list own_st hS ?_ | refine g_box stp_list own_st hS ?_ | refine g_build0 stp_list own_st hS ?_ | refine g_build stp_list own_st hS ?_ | refine g_make stp_list own_st hS ?_); clear hS; intro b w hS; refine put_in ?_) | ((first | refine g_store1 stp_list own_st hS ?_ | refine g_storeR stp_list own_st hS ?_ | refine g_storeRO stp_list own_st hS ?_); clear hS; intro w hS; refine put_in ?_) | (refine g_callq stp_list own_st hS (keysOf_good unit hl _ _ (hu.below hS.below)) ?_; clear hS; intro w hS; refine put_in ?_)) | ((fail_if_success (with_reducible refine cons_list ?_)); first | go_step | go_step3 | rw [Exit.noGoto_normal] | rw [Exit.noGoto_ret] | rw [Exit.noGoto_exit]))
  have ht1 := bytesAt_mid (pre := []) (off := 0) (n := 32) (c := 32) (l := unit.take 32) (post := (unit.drop 32).map bv) (hS.blk 0 rfl) (by rw [List.nil_append, ← List.map_append, halves_app]; rfl) rfl l1 (Nat.le_refl _)
  have ht2 := bytesAt_mid (pre := (unit.take 32).map bv) (off := 32) (n := 32) (c := 32) (l := unit.drop 32) (post := []) (hS.blk 0 rfl) (by rw [List.append_nil, ← List.map_append, halves_app]; rfl) (by rw [List.length_map, l1]) l2 (Nat.le_refl _)
  have ht3 := hu.below hS.below
  refine region_mono_lit 14 (by kernel_rfl) (by kernel_rfl) ?_
  dsimp only [List.take, List.drop]
  iterate 14 (first | (refine wpM_skip (fun _ => rfl) ?_; simp only [Act.put, List.setIfInBounds_toArray, List.set_cons_zero, List.set_cons_succ]) | (refine wpM_alloc rfl (fun _ => rfl) _ (fun w => r_alloc (a := ⟨#[], []⟩) rfl (by infer_instance)) ?_; simp only [Act.put, List.setIfInBounds_toArray, List.set_cons_zero, List.set_cons_succ]) | (refine wpM_slice' rfl (fun _ => rfl) (fun K hK => ?_); apply Exists.intro; apply Exists.intro; apply Exists.intro; apply Exists.intro; refine ⟨fun pB w' hw' hF => ?_, hK _ _ ?_⟩; (focus (exact r_buildSlice (by rfl) (by rfl) (by infer_instance) (by rfl) (by repeat (first | exact (fun _ h => absurd h List.not_mem_nil) | refine List.forall_mem_cons.2 ⟨by first | rfl | (simp only [Value.cells]; first | rfl | omega), ?_⟩)) (by (try conv => lhs; simp only [List.flatMap_cons, List.flatMap_nil, Value.cells, List.append_nil, List.cons_append, List.nil_append]); first | done | rfl) (by decide) (by decide))); clear hK K; simp only [Act.put, List.setIfInBounds_toArray, List.set_cons_zero, List.set_cons_succ]) | (refine wpM_want (fun _ => rfl) (fun K hK => ?_); apply Exists.intro; refine ⟨fun pB w' hw' hF => ?_, hK _ _ ?_⟩; (focus (have hZ := (own_st).call hS hw'; first | exact (q_val (r_text (by rfl) (by rfl) Try.underlying22 Try.underlying5 Try.underlying9 (by first | exact ht1.below hw' | exact ht2.below hw' | exact ht3.below hw'))) | exact (q_val (r_addS halves_app (by rw [hl]; decide) (by rfl) (by rfl) (by rfl))) | exact (q_val (r_neS (by rfl) (by rfl) (by rfl))) | exact q_move | exact q_assign | exact q_load1 own_st hZ | exact q_loadR own_st hZ | exact q_indexAddr | exact q_indexAddrA | exact q_len | exact q_cap | exact q_extract | exact q_add | exact q_sub | exact q_mul | exact q_quo | exact q_rem | exact q_cmp_t | exact q_cmp_f | exact q_neqNil | exact q_neqNil0 | exact q_eqlNil | exact q_eqlNil0 | exact q_fieldAddr | exact q_field1 | exact q_fieldR | exact q_eqlSlNil | exact q_neqSlNil | exact q_makeInterface | exact q_makeFunc | exact q_conv | exact q_pick | exact q_not | exact q_slice | exact q_sliceA | exact q_sliceNil | exact q_builtS | exact q_builtA | exact q_nilCheck)); clear hK K; simp only [Act.put, List.setIfInBounds_toArray, List.set_cons_zero, List.set_cons_succ]))
  refine wpM_nil ?_
  intro pB w hcq hfq hnq
  replace hS := (own_st).news hS hcq _ (by first | decide | simp) hfq hnq
  first | simp only [List.map_nil, List.nil_append] at hS | simp only [List.map_cons, List.map_nil, List.cons_append, List.nil_append] at hS
  clear hcq hfq hnq
  try dsimp only
  clear ht1 ht2 ht3
  repeat' (first | ((with_reducible refine cons_list ?_); first | ((first | refine g_skip stp_list ?_ | refine g_move stp_list ?_ | refine g_assign stp_list ?_ | refine g_load1 stp_list own_st hS ?_ | refine g_loadR stp_list own_st hS ?_ | refine g_indexAddr stp_list ?_ | refine g_indexAddrA stp_list ?_ | refine g_len stp_list ?_ | refine g_cap stp_list ?_ | refine g_extract stp_list ?_ | refine g_add stp_list ?_ | refine g_sub stp_list ?_ | refine g_mul stp_list ?_ | refine g_quo stp_list ?_ | refine g_rem stp_list ?_ | refine g_cmp_t stp_list ?_ | refine g_cmp_f stp_list ?_ | refine g_cmp stp_list (fun hc => ?_) (fun hc => ?_) | refine g_neqNil stp_list ?_ | refine g_neqNil0 stp_list ?_ | refine g_eqlNil stp_list ?_ | refine g_eqlNil0 stp_list ?_ | refine g_fieldAddr stp_list ?_ | refine g_field1 stp_list ?_ | refine g_fieldR stp_list ?_ | refine g_eqlSlNil stp_list ?_ | refine g_neqSlNil stp_list ?_ | refine g_makeInterface stp_list ?_ | refine g_makeFunc stp_list ?_ | refine g_conv stp_list ?_ | refine g_pick stp_list ?_ | refine g_not stp_list ?_ | refine g_slice stp_list ?_ | refine g_sliceA stp_list ?_ | refine g_sliceNil stp_list ?_ | refine g_nilCheck stp_list ?_ | refine g_builtS stp_list ?_ | refine g_builtA stp_list ?_) <;> refine put_in ?_) | ((first | refine g_alloc stp_list own_st hS ?_ | refine g_box stp_list own_st hS ?_ | refine g_build0 stp_list own_st hS ?_ | refine g_build stp_list own_st hS ?_ | refine g_make stp_list own_st hS ?_); clear hS; intro b w hS; refine put_in ?_) | ((first | refine g_store1 stp_list own_st hS ?_ | refine g_storeR stp_list own_st hS ?_ | refine g_storeRO stp_list own_st hS ?_); clear hS; intro w hS; refine put_in ?_) | (refine g_callq stp_list own_st hS (hX1 _ (hv.below hS.below)) ?_; clear hS; intro w hS; refine put_in ?_) | (refine g_callq stp_list own_st hS (hX2 _ (hv.below hS.below)) ?_; clear hS; intro w hS; refine put_in ?_) | (refine Stp.go stp_list (by rfl) (by rfl) (r_neA (n := 128) (by rfl) (by rfl) (by rfl) (by kernel_rfl) (by kernel_rfl) lX lX (show (!(X == X)) = false by simp)) ?_; refine put_in ?_)) | ((fail_if_success (with_reducible refine cons_list ?_)); first | go_step | go_step3 | rw [Exit.noGoto_normal] | rw [Exit.noGoto_ret] | rw [Exit.noGoto_exit]))
  refine s_call stp_list (by rfl) (by rfl) (by rfl) (by rfl) (by rfl) (by infer_instance) (num_nil _) ?_
  rintro e w' ⟨rfl, rfl⟩
  refine ⟨_, rfl, ?_⟩
  refine put_in ?_
  repeat' (first | ((with_reducible refine cons_list ?_); first | ((first | refine g_skip stp_list ?_ | refine g_move stp_list ?_ | refine g_assign stp_list ?_ | refine g_load1 stp_list own_st hS ?_ | refine g_loadR stp_list own_st hS ?_ | refine g_indexAddr stp_list ?_ | refine g_indexAddrA stp_list ?_ | refine g_len stp_list ?_ | refine g_cap stp_list ?_ | refine g_extract stp_list ?_ | refine g_add stp_list ?_ | refine g_sub stp_list ?_ | refine g_mul stp_list ?_ | refine g_quo stp_list ?_ | refine g_rem stp_list ?_ | refine g_cmp_t stp_list ?_ | refine g_cmp_f stp_list ?_ | refine g_cmp stp_list (fun hc => ?_) (fun hc => ?_) | refine g_neqNil stp_list ?_ | refine g_neqNil0 stp_list ?_ | refine g_eqlNil stp_list ?_ | refine g_eqlNil0 stp_list ?_ | refine g_fieldAddr stp_list ?_ | refine g_field1 stp_list ?_ | refine g_fieldR stp_list ?_ | refine g_eqlSlNil stp_list ?_ | refine g_neqSlNil stp_list ?_ | refine g_makeInterface stp_list ?_ | refine g_makeFunc stp_list ?_ | refine g_conv stp_list ?_ | refine g_pick stp_list ?_ | refine g_not stp_list ?_ | refine g_slice stp_list ?_ | refine g_sliceA stp_list ?_ | refine g_sliceNil stp_list ?_ | refine g_nilCheck stp_list ?_ | refine g_builtS stp_list ?_ | refine g_builtA stp_list ?_) <;> refine put_in ?_) | ((first | refine g_alloc stp_list own_st hS ?_ | refine g_box stp_list own_st hS ?_ | refine g_build0 stp_list own_st hS ?_ | refine g_build stp_list own_st hS ?_ | refine g_make stp_list own_st hS ?_); clear hS; intro b w hS; refine put_in ?_) | ((first | refine g_store1 stp_list own_st hS ?_ | refine g_storeR stp_list own_st hS ?_ | refine g_storeRO stp_list own_st hS ?_); clear hS; intro w hS; refine put_in ?_) | (refine g_callq stp_list own_st hS (hT _ (hv.below hS.below)) ?_; clear hS; intro w hS; refine put_in ?_) | (refine g_callq stp_list own_st hS (hX4 _ (hv.below hS.below)) ?_; clear hS; intro w hS; refine put_in ?_) | (refine Stp.go stp_list (by rfl) (by rfl) (r_neA (n := 128) (by rfl) (by rfl) (by rfl) (by kernel_rfl) (by kernel_rfl) hc hc (show (!(c == c)) = false by simp)) ?_; refine put_in ?_) | (refine g_callq stp_list own_st hS (hX3 _ (hv.below hS.below)) ?_; clear hS; intro w hS; refine put_in ?_) | (refine Stp.go stp_list (by rfl) (by rfl) (r_eqK (by rfl) (by rfl) (by rfl) (by kernel_rfl) hl hl (show (unit == unit) = true by simp)) ?_; refine put_in ?_)) | ((fail_if_success (with_reducible refine cons_list ?_)); first | go_step | go_step3 | rw [Exit.noGoto_normal] | rw [Exit.noGoto_ret] | rw [Exit.noGoto_exit]))
  go_ret
  exact ⟨rfl, hS.below⟩
theorem vaultSlots_any (key unit c : List UInt8) (hc : c.length = 128) (kv uv : Value) (w0 : World) (hv : BytesAt w0 kv key) (hu : BytesAt w0 uv unit) :
    Calls Try.prog 10 #[kv, uv, .agg (bvs c)] w0 fun e w' => e = .returned (.bool true) ∧ Below w0.heap.size w0 w' := by
  by_cases hbig : 1000 < key.length ∨ 1000 < unit.length
  · exact vs_big key unit c hc kv uv w0 hv hu hbig
  · have h1 : key.length ≤ 1000 := by omega
    have h2 : unit.length ≤ 1000 := by omega
    by_cases hl : unit.length = 64
    · by_cases h : key.length = 16 ∨ key.length = 32
      · by_cases h6 : (unwrapX key (c.take 72)).1 = a6L
        · obtain ⟨U, hU⟩ : ∃ U, (unwrapX key (c.take 72)).2 = U := ⟨_, rfl⟩
          obtain ⟨B, hB⟩ : ∃ B, (wrapV key U ++ zs 56 == c) = B := ⟨_, rfl⟩
          have hT := fun (w : World) hw => take_on key c U h hc h6 hU B hB kv w hw
          cases B with
          | true =>
            refine vs_on key unit c hc kv uv w0 hv hu h1 hl h U ?_ (by simpa using hB) hT
            have h3 := (unwrapX_form (key := key) (l := c.take 72) h (by rw [List.length_take]; omega) (by rw [List.length_take]; omega)).2
            rw [hU, List.length_take, hc] at h3
            exact h3
          | false => exact vs_off key unit c hc kv uv w0 hv hu h1 hl h hT
        · exact vs_off key unit c hc kv uv w0 hv hu h1 hl h (fun w hw => take_off key c h hc h6 kv w hw)
      · exact vs_key key unit c hc kv uv w0 hv hu h1 hl h
    · exact vs_len key unit c hc kv uv w0 hv hu h1 h2 hl
end Go.Proofs.Ytkfggilildiflab

namespace Go.Proofs.Ytkfggilildiflab
open Go.ChangeShapes Go.WideShapes Go.ChangeAt Go.RowKit

theorem Try.own : ownKnob Try.prog.godebug = none := by kernel_rfl
theorem Try.laidOut : laidOutB Try.prog = true := by kernel_rfl
theorem cells_31 : Try.prog.cellsOf 31 = 128 := by kernel_rfl

set_option maxRecDepth 100000 in
theorem vaultSlots_lifted (os : Os) (started : os.Started) (H : Type) (enc : TypeId × Value → H) :
    ReturnsInHanded {} Try.checked os 10 .any (Rows.vaultSlotsSpec.pre6 enc Try.prog Try.f10 Rows.vaultSlotsRow.domain false) (Rows.vaultSlotsSpec.post enc Try.prog Try.f10 false true false false) := by
  refine law_lift (C := Try.checked) Try.own started (by kernel_rfl) Try.func10
    (ChangeSpec.witness6 (enc := enc) (C := Try.checked) false ⟨#[], #[.slice none 0 0, .slice none 0 0, .agg #[.int .u8 0, .int .u8 0, .int .u8 0, .int .u8 0, .int .u8 0, .int .u8 0, .int .u8 0, .int .u8 0, .int .u8 0, .int .u8 0, .int .u8 0, .int .u8 0, .int .u8 0, .int .u8 0, .int .u8 0, .int .u8 0, .int .u8 0, .int .u8 0, .int .u8 0, .int .u8 0, .int .u8 0, .int .u8 0, .int .u8 0, .int .u8 0, .int .u8 0, .int .u8 0, .int .u8 0, .int .u8 0, .int .u8 0, .int .u8 0, .int .u8 0, .int .u8 0, .int .u8 0, .int .u8 0, .int .u8 0, .int .u8 0, .int .u8 0, .int .u8 0, .int .u8 0, .int .u8 0, .int .u8 0, .int .u8 0, .int .u8 0, .int .u8 0, .int .u8 0, .int .u8 0, .int .u8 0, .int .u8 0, .int .u8 0, .int .u8 0, .int .u8 0, .int .u8 0, .int .u8 0, .int .u8 0, .int .u8 0, .int .u8 0, .int .u8 0, .int .u8 0, .int .u8 0, .int .u8 0, .int .u8 0, .int .u8 0, .int .u8 0, .int .u8 0, .int .u8 0, .int .u8 0, .int .u8 0, .int .u8 0, .int .u8 0, .int .u8 0, .int .u8 0, .int .u8 0, .int .u8 0, .int .u8 0, .int .u8 0, .int .u8 0, .int .u8 0, .int .u8 0, .int .u8 0, .int .u8 0, .int .u8 0, .int .u8 0, .int .u8 0, .int .u8 0, .int .u8 0, .int .u8 0, .int .u8 0, .int .u8 0, .int .u8 0, .int .u8 0, .int .u8 0, .int .u8 0, .int .u8 0, .int .u8 0, .int .u8 0, .int .u8 0, .int .u8 0, .int .u8 0, .int .u8 0, .int .u8 0, .int .u8 0, .int .u8 0, .int .u8 0, .int .u8 0, .int .u8 0, .int .u8 0, .int .u8 0, .int .u8 0, .int .u8 0, .int .u8 0, .int .u8 0, .int .u8 0, .int .u8 0, .int .u8 0, .int .u8 0, .int .u8 0, .int .u8 0, .int .u8 0, .int .u8 0, .int .u8 0, .int .u8 0, .int .u8 0, .int .u8 0, .int .u8 0, .int .u8 0, .int .u8 0, .int .u8 0, .int .u8 0]], []⟩ 8 (by kernel_rfl) (by kernel_rfl) (by kernel_rfl) (by kernel_rfl))
    rfl (by kernel_rfl) Try.underlying4 (fun ds h => by match ds, h with | [a, b, c], _ => exact ⟨rfl, rfl, rfl⟩) Try.laidOut (by kernel_rfl) ?_
  intro W base args ds p hval0 hA0 hlt hsz0
  have hval : ∀ (j : Nat) t v, Try.f10.params[j]? = some t → args[j]? = some v → Value.okWide Try.prog W .any base t v := hval0
  have hA : DataW.TrodAll enc Try.prog W 0 (fun _ => true) true Try.f10.params.toList args.toList ds p := hA0
  have hsz : (DataW.weightsEach Try.prog Try.f10.params.toList ds).all (· ≤ reachBytes) = true := hsz0
  rw [Try.params10] at hA hval hsz
  obtain ⟨v0, v1, v2, d0, d1, d2, p0, p1, p2, rfl, rfl, rfl, h0, h1, h2⟩ := trodAll_three hA
  obtain ⟨x0, lx0, mx0⟩ := open_bytes Try.underlying22 Try.underlying5 (by kernel_rfl) (okWide_slice Try.underlying22 (hval 0 _ v0 rfl rfl)) h0
  obtain ⟨x1, lx1, mx1⟩ := open_bytes Try.underlying22 Try.underlying5 (by kernel_rfl) (okWide_slice Try.underlying22 (hval 1 _ v1 rfl rfl)) h1
  obtain ⟨x2, lx2, rfl⟩ := open_barr isBytes_31 cells_31 (by intro e he; rw [show Try.prog.underlying 31 = _ from Try.underlying31] at he; cases he; kernel_rfl) (hval 2 _ v2 rfl rfl) h2
  exact vaultSlots_any x0 x1 x2 lx2 v0 v1 W lx0 lx1

theorem vaultSlots_holds : Rows.VaultSlotsSaid :=
  OpenClaim.holds_of_wide 10 Try.f10 rfl rfl rfl rfl rfl rfl rfl ⟨rfl, rfl, rfl, rfl, rfl⟩ rfl rfl rfl rfl rfl (by kernel_rfl) Try.func10 (by kernel_rfl)
    (of_decide_eq_true (by kernel_rfl)) (by unfold Func.isWrapper; rw [if_neg (by decide +kernel)]; exact ⟨rfl, rfl⟩)
    (fun os started H enc _ => vaultSlots_lifted os started H enc)

end Go.Proofs.Ytkfggilildiflab
