/-
  Laws that the claims of this seat use, of several texts in one: WSteps, WrapP, WrapV, Work, IterB, RangeP, WrapW. No condition of their own.
-/
import Derived.Test.YtkfggilildiflabJB1

namespace Go.Proofs.Ytkfggilildiflab
open Go.ChangeShapes Go.WideShapes Go.ChangeAt Go.RowKit
attribute [local irreducible] wpList wpListIn
set_option maxRecDepth 100000 in
set_option maxHeartbeats 1000000 in
theorem words_any (p : Option Addr) (n c : Nat) (h : n ≤ 9223372036854775807) (w : World) :
    Calls Try.prog 79 #[.slice p n c] w fun e w' => e = .returned (.int .i64 ((if n % 8 = 0 then n / 8 else 0 : Nat) : Int)) ∧ Below w.heap.size w w' := by
  have hS := St.start w
  go_enter Try.func79, Try.ntmps79
  repeat' (first | ((with_reducible refine cons_list ?_); first | ((first | refine g_skip stp_list ?_ | refine g_move stp_list ?_ | refine g_assign stp_list ?_ | refine g_load1 stp_list own_st hS ?_ | refine g_loadR stp_list own_st hS ?_ | refine g_indexAddr stp_list ?_ | refine g_indexAddrA stp_list ?_ | refine g_len stp_list ?_ | refine g_cap stp_list ?_ | refine g_extract stp_list ?_ | refine g_add stp_list ?_ | refine g_sub stp_list ?_ | refine g_mul stp_list ?_ | refine g_quo stp_list ?_ | refine g_rem stp_list ?_ | refine g_cmp_t stp_list ?_ | refine g_cmp_f stp_list ?_ | refine g_cmp stp_list (fun hc => ?_) (fun hc => ?_) | refine g_neqNil stp_list ?_ | refine g_neqNil0 stp_list ?_ | refine g_eqlNil stp_list ?_ | refine g_eqlNil0 stp_list ?_ | refine g_fieldAddr stp_list ?_ | refine g_field1 stp_list ?_ | refine g_fieldR stp_list ?_ | refine g_eqlSlNil stp_list ?_ | refine g_neqSlNil stp_list ?_ | refine g_makeInterface stp_list ?_ | refine g_makeFunc stp_list ?_ | refine g_conv stp_list ?_ | refine g_pick stp_list ?_ | refine g_not stp_list ?_ | refine g_slice stp_list ?_ | refine g_sliceA stp_list ?_ | refine g_sliceNil stp_list ?_) <;> refine put_in ?_) | ((first | refine g_alloc stp_list own_st hS ?_ | refine g_box stp_list own_st hS ?_ | refine g_build0 stp_list own_st hS ?_ | refine g_build stp_list own_st hS ?_ | refine g_make stp_list own_st hS ?_); clear hS; intro b w hS; refine put_in ?_) | ((first | refine g_store1 stp_list own_st hS ?_ | refine g_storeR stp_list own_st hS ?_); clear hS; intro w hS; refine put_in ?_)) | ((fail_if_success (with_reducible refine cons_list ?_)); first | go_step | go_step3 | rw [Exit.noGoto_normal] | rw [Exit.noGoto_ret] | rw [Exit.noGoto_exit]))
  · go_ret
    exact ⟨by rw [if_neg (by omega)]; rfl, hS.below⟩
  · go_ret
    exact ⟨by rw [if_pos (by omega)]; rfl, hS.below⟩
set_option maxRecDepth 100000 in
set_option maxHeartbeats 1000000 in
theorem steps_any (n : Int) (w : World) : Calls Try.prog 80 #[.int .i64 n] w fun e w' => e = .returned (.func (.func 99) #[] #[.pointer (some ⟨w.heap.size, 0, none⟩)]) ∧ w' = w.alloc (.cells #[.int .i64 n] 3) := by
  go_enter Try.func80, Try.ntmps80
  go_wp2
  go_ret
  exact ⟨rfl, rfl⟩
/-- How many steps there are. -/
def stepN (n : Int) : Nat := if 2 ≤ n ∧ n ≤ 64 then 6 * n.toNat else 0
theorem stepN_pos {n : Nat} (h2 : 2 ≤ n) (h64 : n ≤ 64) : stepN n = 6 * n := by unfold stepN; rw [if_pos (by omega)]; simp
theorem stepN_none {n : Int} (h : n < 2 ∨ 64 < n) : stepN n = 0 := by unfold stepN; rw [if_neg (by omega)]
set_option maxRecDepth 100000 in
set_option maxHeartbeats 2000000 in
theorem steps1_iter (n : Int) (g : Nat) (W0 : World) (hg : blk W0 g = some (.cells #[.int .i64 n] 3 (0, 0))) :
    IterAt Try.prog 99 #[.pointer (some ⟨g, 0, none⟩)] (fun k => #[.int .i64 ((k + 1 : Nat) : Int), .int .i64 (((k % n.toNat + 1 : Nat)) : Int)]) (some (stepN n)) [g] W0 := by
  intro l J Jx M W L0 hbW hR hM hJ0 hH hY
  have hgW : blk W g = some (.cells #[.int .i64 n] 3 (0, 0)) := (hbW.block g (blk_lt hg)).trans hg
  have hgn : g ∉ L0.map (·.1) := hR g (List.mem_singleton.2 rfl)
  refine (callsIn_wide (n := 1)).1 ?_
  refine callsIn_of_wp Try.func99 rfl trivial ?_ rfl
  simp only [Try.ntmps99, List.size_toArray, List.length_cons, List.length_nil, Nat.reduceAdd, Nat.reduceSub, Array.replicate_succ, Array.replicate_zero, List.push_toArray, List.append_toArray, List.nil_append, List.cons_append]
  by_cases h2 : n < 2
  · repeat' (first | ((with_reducible refine cons_in ?_); first | ((first | refine g_skip stp_wide ?_ | refine g_move stp_wide ?_ | refine g_assign stp_wide ?_ | refine g_load1 stp_wide own_in hS ?_ | refine g_load1F stp_wide (by first | exact hgW) ?_ | refine g_loadR stp_wide own_in hS ?_ | refine g_loadRF stp_wide (by first | exact hgW) ?_ | refine g_indexAddr stp_wide ?_ | refine g_indexAddrA stp_wide ?_ | refine g_len stp_wide ?_ | refine g_cap stp_wide ?_ | refine g_extract stp_wide ?_ | refine g_add stp_wide ?_ | refine g_sub stp_wide ?_ | refine g_mul stp_wide ?_ | refine g_quo stp_wide ?_ | refine g_rem stp_wide ?_ | refine g_cmp_t stp_wide ?_ | refine g_cmp_f stp_wide ?_ | refine g_cmp stp_wide (fun hc => ?_) (fun hc => ?_) | refine g_neqNil stp_wide ?_ | refine g_neqNil0 stp_wide ?_ | refine g_eqlNil stp_wide ?_ | refine g_eqlNil0 stp_wide ?_ | refine g_fieldAddr stp_wide ?_ | refine g_field1 stp_wide ?_ | refine g_fieldR stp_wide ?_ | refine g_eqlSlNil stp_wide ?_ | refine g_neqSlNil stp_wide ?_ | refine g_makeInterface stp_wide ?_ | refine g_makeFunc stp_wide ?_ | refine g_conv stp_wide ?_ | refine g_pick stp_wide ?_ | refine g_not stp_wide ?_ | refine g_slice stp_wide ?_ | refine g_sliceA stp_wide ?_ | refine g_sliceNil stp_wide ?_) <;> refine put_in ?_) | ((first | refine g_alloc stp_wide own_in hS ?_ | refine g_box stp_wide own_in hS ?_ | refine g_build0 stp_wide own_in hS ?_ | refine g_build stp_wide own_in hS ?_ | refine g_make stp_wide own_in hS ?_); clear hS; intro b w hS; refine put_in ?_) | ((first | refine g_store1 stp_wide own_in hS ?_ | refine g_storeR stp_wide own_in hS ?_); clear hS; intro w hS; refine put_in ?_)) | ((fail_if_success (with_reducible refine cons_in ?_)); first | gi_step | (with_reducible refine wpIn_scope_wide ?_) | (with_reducible refine wpIn_label ?_) | rw [Exit.noGoto_normal] | rw [Exit.noGoto_ret] | rw [Exit.noGoto_exit]))
    refine bodyPost_ret (results_none rfl _ _ _) rfl ?_
    exact ⟨⟨_, rfl⟩, L0, .refl hH, .inl ⟨0, by rw [stepN_none (.inl h2)], hJ0⟩⟩
  by_cases h3 : 64 < n
  · repeat' (first | ((with_reducible refine cons_in ?_); first | ((first | refine g_skip stp_wide ?_ | refine g_move stp_wide ?_ | refine g_assign stp_wide ?_ | refine g_load1 stp_wide own_in hS ?_ | refine g_load1F stp_wide (by first | exact hgW) ?_ | refine g_loadR stp_wide own_in hS ?_ | refine g_loadRF stp_wide (by first | exact hgW) ?_ | refine g_indexAddr stp_wide ?_ | refine g_indexAddrA stp_wide ?_ | refine g_len stp_wide ?_ | refine g_cap stp_wide ?_ | refine g_extract stp_wide ?_ | refine g_add stp_wide ?_ | refine g_sub stp_wide ?_ | refine g_mul stp_wide ?_ | refine g_quo stp_wide ?_ | refine g_rem stp_wide ?_ | refine g_cmp_t stp_wide ?_ | refine g_cmp_f stp_wide ?_ | refine g_cmp stp_wide (fun hc => ?_) (fun hc => ?_) | refine g_neqNil stp_wide ?_ | refine g_neqNil0 stp_wide ?_ | refine g_eqlNil stp_wide ?_ | refine g_eqlNil0 stp_wide ?_ | refine g_fieldAddr stp_wide ?_ | refine g_field1 stp_wide ?_ | refine g_fieldR stp_wide ?_ | refine g_eqlSlNil stp_wide ?_ | refine g_neqSlNil stp_wide ?_ | refine g_makeInterface stp_wide ?_ | refine g_makeFunc stp_wide ?_ | refine g_conv stp_wide ?_ | refine g_pick stp_wide ?_ | refine g_not stp_wide ?_ | refine g_slice stp_wide ?_ | refine g_sliceA stp_wide ?_ | refine g_sliceNil stp_wide ?_) <;> refine put_in ?_) | ((first | refine g_alloc stp_wide own_in hS ?_ | refine g_box stp_wide own_in hS ?_ | refine g_build0 stp_wide own_in hS ?_ | refine g_build stp_wide own_in hS ?_ | refine g_make stp_wide own_in hS ?_); clear hS; intro b w hS; refine put_in ?_) | ((first | refine g_store1 stp_wide own_in hS ?_ | refine g_storeR stp_wide own_in hS ?_); clear hS; intro w hS; refine put_in ?_)) | ((fail_if_success (with_reducible refine cons_in ?_)); first | gi_step | (with_reducible refine wpIn_scope_wide ?_) | (with_reducible refine wpIn_label ?_) | rw [Exit.noGoto_normal] | rw [Exit.noGoto_ret] | rw [Exit.noGoto_exit]))
    refine bodyPost_ret (results_none rfl _ _ _) rfl ?_
    exact ⟨⟨_, rfl⟩, L0, .refl hH, .inl ⟨0, by rw [stepN_none (.inr h3)], hJ0⟩⟩
  obtain ⟨m, rfl⟩ : ∃ m : Nat, n = m := ⟨n.toNat, by omega⟩
  have hN : stepN m = 6 * m := stepN_pos (by omega) (by omega)
  repeat' (first | ((with_reducible refine cons_in ?_); first | ((first | refine g_skip stp_wide ?_ | refine g_move stp_wide ?_ | refine g_assign stp_wide ?_ | refine g_load1 stp_wide own_in hS ?_ | refine g_load1F stp_wide (by first | exact hgW) ?_ | refine g_loadR stp_wide own_in hS ?_ | refine g_loadRF stp_wide (by first | exact hgW) ?_ | refine g_indexAddr stp_wide ?_ | refine g_indexAddrA stp_wide ?_ | refine g_len stp_wide ?_ | refine g_cap stp_wide ?_ | refine g_extract stp_wide ?_ | refine g_add stp_wide ?_ | refine g_sub stp_wide ?_ | refine g_mul stp_wide ?_ | refine g_quo stp_wide ?_ | refine g_rem stp_wide ?_ | refine g_cmp_t stp_wide ?_ | refine g_cmp_f stp_wide ?_ | refine g_cmp stp_wide (fun hc => ?_) (fun hc => ?_) | refine g_neqNil stp_wide ?_ | refine g_neqNil0 stp_wide ?_ | refine g_eqlNil stp_wide ?_ | refine g_eqlNil0 stp_wide ?_ | refine g_fieldAddr stp_wide ?_ | refine g_field1 stp_wide ?_ | refine g_fieldR stp_wide ?_ | refine g_eqlSlNil stp_wide ?_ | refine g_neqSlNil stp_wide ?_ | refine g_makeInterface stp_wide ?_ | refine g_makeFunc stp_wide ?_ | refine g_conv stp_wide ?_ | refine g_pick stp_wide ?_ | refine g_not stp_wide ?_ | refine g_slice stp_wide ?_ | refine g_sliceA stp_wide ?_ | refine g_sliceNil stp_wide ?_) <;> refine put_in ?_) | ((first | refine g_alloc stp_wide own_in hS ?_ | refine g_box stp_wide own_in hS ?_ | refine g_build0 stp_wide own_in hS ?_ | refine g_build stp_wide own_in hS ?_ | refine g_make stp_wide own_in hS ?_); clear hS; intro b w hS; refine put_in ?_) | ((first | refine g_store1 stp_wide own_in hS ?_ | refine g_storeR stp_wide own_in hS ?_); clear hS; intro w hS; refine put_in ?_)) | ((fail_if_success (with_reducible refine cons_in ?_)); first | gi_step | (with_reducible refine wpIn_scope_wide ?_) | (with_reducible refine wpIn_label ?_) | rw [Exit.noGoto_normal] | rw [Exit.noGoto_ret] | rw [Exit.noGoto_exit]))
  gi_loopg [3] (6 * m) (fun r u3 wr => ∃ k L, r + k = 6 * m ∧ u3 = .int .i64 ((k : Int) + 1) ∧ J k L ∧ Rd L0 W L wr)
  case atStart => exact ⟨0, L0, by omega, rfl, hJ0, .refl hH⟩
  case round =>
    obtain ⟨k, L, hk, rfl, hJ, hRd⟩ := hrel
    have hgr : blk wr g = some (.cells #[.int .i64 m] 3 (0, 0)) := (hRd.far hgW hgn).1
    by_cases hlt : k < 6 * m
    · have m1 : 0 ≤ (k : Int) % (m : Int) := Int.emod_nonneg _ (by omega)
      have m2 : (k : Int) % (m : Int) < (m : Int) := Int.emod_lt_of_pos _ (by omega)
      repeat' (first | ((with_reducible refine cons_in ?_); first | ((first | refine g_skip stp_wide ?_ | refine g_move stp_wide ?_ | refine g_assign stp_wide ?_ | refine g_load1 stp_wide own_in hS ?_ | refine g_load1F stp_wide (by first | exact hgr) ?_ | refine g_loadR stp_wide own_in hS ?_ | refine g_loadRF stp_wide (by first | exact hgr) ?_ | refine g_indexAddr stp_wide ?_ | refine g_indexAddrA stp_wide ?_ | refine g_len stp_wide ?_ | refine g_cap stp_wide ?_ | refine g_extract stp_wide ?_ | refine g_add stp_wide ?_ | refine g_sub stp_wide ?_ | refine g_mul stp_wide ?_ | refine g_quo stp_wide ?_ | refine g_rem stp_wide ?_ | refine g_cmp_t stp_wide ?_ | refine g_cmp_f stp_wide ?_ | refine g_cmp stp_wide (fun hc => ?_) (fun hc => ?_) | refine g_neqNil stp_wide ?_ | refine g_neqNil0 stp_wide ?_ | refine g_eqlNil stp_wide ?_ | refine g_eqlNil0 stp_wide ?_ | refine g_fieldAddr stp_wide ?_ | refine g_field1 stp_wide ?_ | refine g_fieldR stp_wide ?_ | refine g_eqlSlNil stp_wide ?_ | refine g_neqSlNil stp_wide ?_ | refine g_makeInterface stp_wide ?_ | refine g_makeFunc stp_wide ?_ | refine g_conv stp_wide ?_ | refine g_pick stp_wide ?_ | refine g_not stp_wide ?_ | refine g_slice stp_wide ?_ | refine g_sliceA stp_wide ?_ | refine g_sliceNil stp_wide ?_) <;> refine put_in ?_) | ((first | refine g_alloc stp_wide own_in hS ?_ | refine g_box stp_wide own_in hS ?_ | refine g_build0 stp_wide own_in hS ?_ | refine g_build stp_wide own_in hS ?_ | refine g_make stp_wide own_in hS ?_); clear hS; intro b w hS; refine put_in ?_) | ((first | refine g_store1 stp_wide own_in hS ?_ | refine g_storeR stp_wide own_in hS ?_); clear hS; intro w hS; refine put_in ?_)) | ((fail_if_success (with_reducible refine cons_in ?_)); first | gi_step | (with_reducible refine wpIn_scope_wide ?_) | (with_reducible refine wpIn_label ?_) | rw [Exit.noGoto_normal] | rw [Exit.noGoto_ret] | rw [Exit.noGoto_exit]))
      (refine s_yield (by rfl) (by rfl) (by rfl) (by rfl) (by rfl) (by simpa using hY k L wr hJ hRd (fun n h => by cases h; omega)) ?_)
      rintro e W3 ⟨L2, hRd2, (⟨rfl, hJ2⟩ | ⟨rfl, hx⟩)⟩
      · refine ⟨_, rfl, ?_⟩
        refine put_in ?_
        repeat' (first | ((with_reducible refine cons_in ?_); first | ((first | refine g_skip stp_wide ?_ | refine g_move stp_wide ?_ | refine g_assign stp_wide ?_ | refine g_load1 stp_wide own_in hS ?_ | refine g_load1F stp_wide (by first | exact hgr) ?_ | refine g_loadR stp_wide own_in hS ?_ | refine g_loadRF stp_wide (by first | exact hgr) ?_ | refine g_indexAddr stp_wide ?_ | refine g_indexAddrA stp_wide ?_ | refine g_len stp_wide ?_ | refine g_cap stp_wide ?_ | refine g_extract stp_wide ?_ | refine g_add stp_wide ?_ | refine g_sub stp_wide ?_ | refine g_mul stp_wide ?_ | refine g_quo stp_wide ?_ | refine g_rem stp_wide ?_ | refine g_cmp_t stp_wide ?_ | refine g_cmp_f stp_wide ?_ | refine g_cmp stp_wide (fun hc => ?_) (fun hc => ?_) | refine g_neqNil stp_wide ?_ | refine g_neqNil0 stp_wide ?_ | refine g_eqlNil stp_wide ?_ | refine g_eqlNil0 stp_wide ?_ | refine g_fieldAddr stp_wide ?_ | refine g_field1 stp_wide ?_ | refine g_fieldR stp_wide ?_ | refine g_eqlSlNil stp_wide ?_ | refine g_neqSlNil stp_wide ?_ | refine g_makeInterface stp_wide ?_ | refine g_makeFunc stp_wide ?_ | refine g_conv stp_wide ?_ | refine g_pick stp_wide ?_ | refine g_not stp_wide ?_ | refine g_slice stp_wide ?_ | refine g_sliceA stp_wide ?_ | refine g_sliceNil stp_wide ?_) <;> refine put_in ?_) | ((first | refine g_alloc stp_wide own_in hS ?_ | refine g_box stp_wide own_in hS ?_ | refine g_build0 stp_wide own_in hS ?_ | refine g_build stp_wide own_in hS ?_ | refine g_make stp_wide own_in hS ?_); clear hS; intro b w hS; refine put_in ?_) | ((first | refine g_store1 stp_wide own_in hS ?_ | refine g_storeR stp_wide own_in hS ?_); clear hS; intro w hS; refine put_in ?_)) | ((fail_if_success (with_reducible refine cons_in ?_)); first | gi_step | (with_reducible refine wpIn_scope_wide ?_) | (with_reducible refine wpIn_label ?_) | rw [Exit.noGoto_normal] | rw [Exit.noGoto_ret] | rw [Exit.noGoto_exit]))
        gi_roundg (gk - 1)
        case rel => exact ⟨k + 1, L2, by omega, by push_cast; rfl, hJ2, hRd.trans hRd2⟩
        case measure => omega
      · refine ⟨_, rfl, ?_⟩
        refine put_in ?_
        repeat' (first | ((with_reducible refine cons_in ?_); first | ((first | refine g_skip stp_wide ?_ | refine g_move stp_wide ?_ | refine g_assign stp_wide ?_ | refine g_load1 stp_wide own_in hS ?_ | refine g_load1F stp_wide (by first | exact hgr) ?_ | refine g_loadR stp_wide own_in hS ?_ | refine g_loadRF stp_wide (by first | exact hgr) ?_ | refine g_indexAddr stp_wide ?_ | refine g_indexAddrA stp_wide ?_ | refine g_len stp_wide ?_ | refine g_cap stp_wide ?_ | refine g_extract stp_wide ?_ | refine g_add stp_wide ?_ | refine g_sub stp_wide ?_ | refine g_mul stp_wide ?_ | refine g_quo stp_wide ?_ | refine g_rem stp_wide ?_ | refine g_cmp_t stp_wide ?_ | refine g_cmp_f stp_wide ?_ | refine g_cmp stp_wide (fun hc => ?_) (fun hc => ?_) | refine g_neqNil stp_wide ?_ | refine g_neqNil0 stp_wide ?_ | refine g_eqlNil stp_wide ?_ | refine g_eqlNil0 stp_wide ?_ | refine g_fieldAddr stp_wide ?_ | refine g_field1 stp_wide ?_ | refine g_fieldR stp_wide ?_ | refine g_eqlSlNil stp_wide ?_ | refine g_neqSlNil stp_wide ?_ | refine g_makeInterface stp_wide ?_ | refine g_makeFunc stp_wide ?_ | refine g_conv stp_wide ?_ | refine g_pick stp_wide ?_ | refine g_not stp_wide ?_ | refine g_slice stp_wide ?_ | refine g_sliceA stp_wide ?_ | refine g_sliceNil stp_wide ?_) <;> refine put_in ?_) | ((first | refine g_alloc stp_wide own_in hS ?_ | refine g_box stp_wide own_in hS ?_ | refine g_build0 stp_wide own_in hS ?_ | refine g_build stp_wide own_in hS ?_ | refine g_make stp_wide own_in hS ?_); clear hS; intro b w hS; refine put_in ?_) | ((first | refine g_store1 stp_wide own_in hS ?_ | refine g_storeR stp_wide own_in hS ?_); clear hS; intro w hS; refine put_in ?_)) | ((fail_if_success (with_reducible refine cons_in ?_)); first | gi_step | (with_reducible refine wpIn_scope_wide ?_) | (with_reducible refine wpIn_label ?_) | rw [Exit.noGoto_normal] | rw [Exit.noGoto_ret] | rw [Exit.noGoto_exit]))
        refine bodyPost_end (results_none rfl _ _ _) rfl ?_
        exact ⟨⟨_, rfl⟩, L2, hRd.trans hRd2, .inr hx⟩
    · obtain rfl : k = 6 * m := by omega
      repeat' (first | ((with_reducible refine cons_in ?_); first | ((first | refine g_skip stp_wide ?_ | refine g_move stp_wide ?_ | refine g_assign stp_wide ?_ | refine g_load1 stp_wide own_in hS ?_ | refine g_load1F stp_wide (by first | exact hgr) ?_ | refine g_loadR stp_wide own_in hS ?_ | refine g_loadRF stp_wide (by first | exact hgr) ?_ | refine g_indexAddr stp_wide ?_ | refine g_indexAddrA stp_wide ?_ | refine g_len stp_wide ?_ | refine g_cap stp_wide ?_ | refine g_extract stp_wide ?_ | refine g_add stp_wide ?_ | refine g_sub stp_wide ?_ | refine g_mul stp_wide ?_ | refine g_quo stp_wide ?_ | refine g_rem stp_wide ?_ | refine g_cmp_t stp_wide ?_ | refine g_cmp_f stp_wide ?_ | refine g_cmp stp_wide (fun hc => ?_) (fun hc => ?_) | refine g_neqNil stp_wide ?_ | refine g_neqNil0 stp_wide ?_ | refine g_eqlNil stp_wide ?_ | refine g_eqlNil0 stp_wide ?_ | refine g_fieldAddr stp_wide ?_ | refine g_field1 stp_wide ?_ | refine g_fieldR stp_wide ?_ | refine g_eqlSlNil stp_wide ?_ | refine g_neqSlNil stp_wide ?_ | refine g_makeInterface stp_wide ?_ | refine g_makeFunc stp_wide ?_ | refine g_conv stp_wide ?_ | refine g_pick stp_wide ?_ | refine g_not stp_wide ?_ | refine g_slice stp_wide ?_ | refine g_sliceA stp_wide ?_ | refine g_sliceNil stp_wide ?_) <;> refine put_in ?_) | ((first | refine g_alloc stp_wide own_in hS ?_ | refine g_box stp_wide own_in hS ?_ | refine g_build0 stp_wide own_in hS ?_ | refine g_build stp_wide own_in hS ?_ | refine g_make stp_wide own_in hS ?_); clear hS; intro b w hS; refine put_in ?_) | ((first | refine g_store1 stp_wide own_in hS ?_ | refine g_storeR stp_wide own_in hS ?_); clear hS; intro w hS; refine put_in ?_)) | ((fail_if_success (with_reducible refine cons_in ?_)); first | gi_step | (with_reducible refine wpIn_scope_wide ?_) | (with_reducible refine wpIn_label ?_) | rw [Exit.noGoto_normal] | rw [Exit.noGoto_ret] | rw [Exit.noGoto_exit]))
      refine bodyPost_end (results_none rfl _ _ _) rfl ?_
      exact ⟨⟨_, rfl⟩, L, hRd, .inl ⟨6 * m, by rw [hN], hJ⟩⟩
end Go.Proofs.Ytkfggilildiflab

namespace Go.Proofs.Ytkfggilildiflab
open Go.ChangeShapes Go.WideShapes Go.ChangeAt Go.RowKit
/-- Eight bytes of a text written over. -/
def putW (l k : List UInt8) (i : Nat) : List UInt8 := l.take (8 * i) ++ (k ++ l.drop (8 * i + 8))
def wordAt (l : List UInt8) (i : Nat) : List UInt8 := (l.drop (8 * i)).take 8
theorem wordAt_len {l : List UInt8} {i : Nat} (h : 8 * i + 8 ≤ l.length) : (wordAt l i).length = 8 := by unfold wordAt; simp; omega
theorem putW_len {l k : List UInt8} {i : Nat} (h : 8 * i + 8 ≤ l.length) (hk : k.length = 8) : (putW l k i).length = l.length := by unfold putW; simp; omega
theorem wordAt_put {l k : List UInt8} {i : Nat} (h : 8 * i + 8 ≤ l.length) (hk : k.length = 8) : wordAt (putW l k i) i = k := by
  have h1 : (l.take (8 * i)).length = 8 * i := by simp; omega
  unfold wordAt putW
  rw [List.drop_append_of_le_length (by omega), List.drop_of_length_le (by omega), List.nil_append, List.take_append_of_le_length (by omega), List.take_of_length_le (by omega)]
theorem putW_put {l k k' : List UInt8} {i : Nat} (h : 8 * i + 8 ≤ l.length) (hk : k.length = 8) : putW (putW l k i) k' i = putW l k' i := by
  have h1 : (l.take (8 * i)).length = 8 * i := by simp; omega
  have h2 : (l.take (8 * i) ++ (k ++ l.drop (8 * i + 8))).drop (8 * i + 8) = l.drop (8 * i + 8) := by
    rw [← List.append_assoc, List.drop_append_of_le_length (by simp; omega), List.drop_of_length_le (by simp; omega), List.nil_append]
  unfold putW
  rw [h2, List.take_append_of_le_length (by omega), List.take_of_length_le (by omega)]
theorem putW_self {l : List UInt8} {i : Nat} : putW l (wordAt l i) i = l := by
  unfold putW wordAt
  rw [← List.append_assoc, ← List.take_add, List.take_append_drop]
/-- One step: number s, from nought. -/
def wStep (E : List UInt8 → List UInt8) (n : Nat) (x : List UInt8 × List UInt8) (s : Nat) : List UInt8 × List UInt8 :=
  (xorL ((E (x.1 ++ wordAt x.2 (s % n))).take 8) (beB (s + 1) 8), putW x.2 ((E (x.1 ++ wordAt x.2 (s % n))).drop 8) (s % n))
def uStep (D : List UInt8 → List UInt8) (n : Nat) (x : List UInt8 × List UInt8) (s : Nat) : List UInt8 × List UInt8 :=
  ((D (xorL x.1 (beB (s + 1) 8) ++ wordAt x.2 (s % n))).take 8, putW x.2 ((D (xorL x.1 (beB (s + 1) 8) ++ wordAt x.2 (s % n))).drop 8) (s % n))
/-- In form: a number of eight bytes, and so many words. -/
def InForm (n : Nat) (x : List UInt8 × List UInt8) : Prop := x.1.length = 8 ∧ x.2.length = 8 * n
theorem word_fits {n s : Nat} (hn : 0 < n) : 8 * (s % n) + 8 ≤ 8 * n := by have := Nat.mod_lt s hn; omega
theorem wStep_form {E : List UInt8 → List UInt8} (hE : ∀ x, x.length = 16 → (E x).length = 16) {n : Nat} (hn : 0 < n) {x : List UInt8 × List UInt8} (hx : InForm n x) (s : Nat) : InForm n (wStep E n x s) := by
  have hw := word_fits (s := s) hn
  have h1 := wordAt_len (l := x.2) (i := s % n) (by rw [hx.2]; exact hw)
  have h2 := hE (x.1 ++ wordAt x.2 (s % n)) (by rw [List.length_append, hx.1, h1])
  exact ⟨xorL_len _ _ 8 (by rw [List.length_take, h2]; rfl) (beB_len _ _), by unfold wStep; rw [putW_len (by rw [hx.2]; exact hw) (by rw [List.length_drop, h2])]; exact hx.2⟩
theorem uStep_form {D : List UInt8 → List UInt8} (hD : ∀ x, x.length = 16 → (D x).length = 16) {n : Nat} (hn : 0 < n) {x : List UInt8 × List UInt8} (hx : InForm n x) (s : Nat) : InForm n (uStep D n x s) := by
  have hw := word_fits (s := s) hn
  have h1 := wordAt_len (l := x.2) (i := s % n) (by rw [hx.2]; exact hw)
  have h0 := xorL_len x.1 (beB (s + 1) 8) 8 hx.1 (beB_len _ _)
  have h2 := hD (xorL x.1 (beB (s + 1) 8) ++ wordAt x.2 (s % n)) (by rw [List.length_append, h0, h1])
  exact ⟨by unfold uStep; rw [List.length_take, h2]; rfl, by unfold uStep; rw [putW_len (by rw [hx.2]; exact hw) (by rw [List.length_drop, h2])]; exact hx.2⟩
theorem u_of_w {E D : List UInt8 → List UInt8} (hE : ∀ x, x.length = 16 → (E x).length = 16) (hDE : ∀ x, x.length = 16 → D (E x) = x) {n : Nat} (hn : 0 < n) {x : List UInt8 × List UInt8} (hx : InForm n x) (s : Nat) : uStep D n (wStep E n x s) s = x := by
  have hw := word_fits (s := s) hn
  have hx1 : x.1.length = 8 := hx.1
  have h1 := wordAt_len (l := x.2) (i := s % n) (by rw [hx.2]; exact hw)
  have hl : (x.1 ++ wordAt x.2 (s % n)).length = 16 := by rw [List.length_append, hx.1, h1]
  have h2 := hE _ hl
  have h3 := hDE _ hl
  have ht : ((E (x.1 ++ wordAt x.2 (s % n))).take 8).length = 8 := by rw [List.length_take, h2]; rfl
  have hd : ((E (x.1 ++ wordAt x.2 (s % n))).drop 8).length = 8 := by rw [List.length_drop, h2]
  unfold uStep
  have e1 : (wStep E n x s).1 = xorL ((E (x.1 ++ wordAt x.2 (s % n))).take 8) (beB (s + 1) 8) := rfl
  have e2 : (wStep E n x s).2 = putW x.2 ((E (x.1 ++ wordAt x.2 (s % n))).drop 8) (s % n) := rfl
  rw [e1, e2, xorL_twice (by rw [ht, beB_len]), wordAt_put (by rw [hx.2]; exact hw) hd, List.take_append_drop, h3, putW_put (by rw [hx.2]; exact hw) hd,
    List.take_append_of_le_length (by omega), List.take_of_length_le (by omega), List.drop_append_of_le_length (by omega), List.drop_of_length_le (by omega), List.nil_append, putW_self]
theorem w_of_u {E D : List UInt8 → List UInt8} (hD : ∀ x, x.length = 16 → (D x).length = 16) (hED : ∀ x, x.length = 16 → E (D x) = x) {n : Nat} (hn : 0 < n) {x : List UInt8 × List UInt8} (hx : InForm n x) (s : Nat) : wStep E n (uStep D n x s) s = x := by
  have hw := word_fits (s := s) hn
  have h1 := wordAt_len (l := x.2) (i := s % n) (by rw [hx.2]; exact hw)
  have h0 := xorL_len x.1 (beB (s + 1) 8) 8 hx.1 (beB_len _ _)
  have hl : (xorL x.1 (beB (s + 1) 8) ++ wordAt x.2 (s % n)).length = 16 := by rw [List.length_append, h0, h1]
  have h2 := hD _ hl
  have h3 := hED _ hl
  have hd : ((D (xorL x.1 (beB (s + 1) 8) ++ wordAt x.2 (s % n))).drop 8).length = 8 := by rw [List.length_drop, h2]
  unfold wStep
  have e1 : (uStep D n x s).1 = (D (xorL x.1 (beB (s + 1) 8) ++ wordAt x.2 (s % n))).take 8 := rfl
  have e2 : (uStep D n x s).2 = putW x.2 ((D (xorL x.1 (beB (s + 1) 8) ++ wordAt x.2 (s % n))).drop 8) (s % n) := rfl
  rw [e1, e2, wordAt_put (by rw [hx.2]; exact hw) hd, List.take_append_drop, h3, putW_put (by rw [hx.2]; exact hw) hd,
    List.take_append_of_le_length (by omega), List.take_of_length_le (by omega), List.drop_append_of_le_length (by omega), List.drop_of_length_le (by omega), List.nil_append, putW_self, xorL_twice (by rw [hx.1, beB_len])]
/-- So many steps; so many steps back, from the last of them. -/
def wSteps (E : List UInt8 → List UInt8) (n : Nat) (x : List UInt8 × List UInt8) : Nat → List UInt8 × List UInt8
  | 0 => x
  | s + 1 => wStep E n (wSteps E n x s) s
def uSteps (D : List UInt8 → List UInt8) (n : Nat) (x : List UInt8 × List UInt8) : Nat → List UInt8 × List UInt8
  | 0 => x
  | s + 1 => uSteps D n (uStep D n x s) s
theorem wSteps_form {E : List UInt8 → List UInt8} (hE : ∀ x, x.length = 16 → (E x).length = 16) {n : Nat} (hn : 0 < n) {x : List UInt8 × List UInt8} (hx : InForm n x) : ∀ s, InForm n (wSteps E n x s)
  | 0 => hx
  | s + 1 => wStep_form hE hn (wSteps_form hE hn hx s) s
theorem uSteps_form {D : List UInt8 → List UInt8} (hD : ∀ x, x.length = 16 → (D x).length = 16) {n : Nat} (hn : 0 < n) : ∀ (s : Nat) {x : List UInt8 × List UInt8}, InForm n x → InForm n (uSteps D n x s)
  | 0, _, hx => hx
  | s + 1, _, hx => uSteps_form hD hn s (uStep_form hD hn hx s)
theorem uSteps_wSteps {E D : List UInt8 → List UInt8} (hE : ∀ x, x.length = 16 → (E x).length = 16) (hDE : ∀ x, x.length = 16 → D (E x) = x) {n : Nat} (hn : 0 < n) {x : List UInt8 × List UInt8} (hx : InForm n x) : ∀ s, uSteps D n (wSteps E n x s) s = x
  | 0 => rfl
  | s + 1 => by
    show uSteps D n (uStep D n (wStep E n (wSteps E n x s) s) s) s = x
    rw [u_of_w hE hDE hn (wSteps_form hE hn hx s), uSteps_wSteps hE hDE hn hx s]
theorem wSteps_uSteps {E D : List UInt8 → List UInt8} (hD : ∀ x, x.length = 16 → (D x).length = 16) (hED : ∀ x, x.length = 16 → E (D x) = x) {n : Nat} (hn : 0 < n) : ∀ (s : Nat) {x : List UInt8 × List UInt8}, InForm n x → wSteps E n (uSteps D n x s) s = x
  | 0, _, _ => rfl
  | s + 1, x, hx => by
    show wStep E n (wSteps E n (uSteps D n (uStep D n x s) s) s) s = x
    rw [wSteps_uSteps hD hED hn s (uStep_form hD hn hx s), w_of_u hD hED hn hx s]
theorem wSteps_zero (E : List UInt8 → List UInt8) (n : Nat) (x : List UInt8 × List UInt8) : wSteps E n x 0 = x := rfl
theorem wSteps_succ (E : List UInt8 → List UInt8) (n : Nat) (x : List UInt8 × List UInt8) (s : Nat) : wSteps E n x (s + 1) = wStep E n (wSteps E n x s) s := rfl
theorem uSteps_zero (D : List UInt8 → List UInt8) (n : Nat) (x : List UInt8 × List UInt8) : uSteps D n x 0 = x := rfl
theorem uSteps_succ (D : List UInt8 → List UInt8) (n : Nat) (x : List UInt8 × List UInt8) (s : Nat) : uSteps D n x (s + 1) = uSteps D n (uStep D n x s) s := rfl
theorem wStep_of {E : List UInt8 → List UInt8} {n : Nat} {a l k : List UInt8} {s : Nat} (h : E (a ++ wordAt l (s % n)) = k) : wStep E n (a, l) s = (xorL (k.take 8) (beB (s + 1) 8), putW l (k.drop 8) (s % n)) := by unfold wStep; rw [h]
theorem uStep_of {D : List UInt8 → List UInt8} {n : Nat} {a l k : List UInt8} {s : Nat} (h : D (xorL a (beB (s + 1) 8) ++ wordAt l (s % n)) = k) : uStep D n (a, l) s = (k.take 8, putW l (k.drop 8) (s % n)) := by unfold uStep; rw [h]
attribute [irreducible] putW wordAt wStep uStep wSteps uSteps
end Go.Proofs.Ytkfggilildiflab

namespace Go.Proofs.Ytkfggilildiflab
open Go.ChangeShapes Go.WideShapes Go.ChangeAt Go.RowKit
def a6L : List UInt8 := [0xa6, 0xa6, 0xa6, 0xa6, 0xa6, 0xa6, 0xa6, 0xa6]
/-- The state behind all steps; the wrapped text. -/
def wrapX (key l : List UInt8) : List UInt8 × List UInt8 := wSteps (sealV key) (l.length / 8) (a6L, l) (6 * (l.length / 8))
def wrapV (key l : List UInt8) : List UInt8 := (wrapX key l).1 ++ (wrapX key l).2
def unwrapX (key l : List UInt8) : List UInt8 × List UInt8 := uSteps (openV key) (l.length / 8 - 1) (l.take 8, l.drop 8) (6 * (l.length / 8 - 1))
theorem seal_len' {key : List UInt8} (h : key.length = 16 ∨ key.length = 32) : ∀ x, x.length = 16 → (sealV key x).length = 16 := fun _ hx => sealV_len h hx
theorem open_len' {key : List UInt8} (h : key.length = 16 ∨ key.length = 32) : ∀ x, x.length = 16 → (openV key x).length = 16 := fun _ hx => openV_len h hx
theorem open_seal' {key : List UInt8} (h : key.length = 16 ∨ key.length = 32) : ∀ x, x.length = 16 → openV key (sealV key x) = x := fun _ hx => dec_enc_all (rkeys_16 h) hx
theorem seal_open' {key : List UInt8} (h : key.length = 16 ∨ key.length = 32) : ∀ x, x.length = 16 → sealV key (openV key x) = x := fun _ hx => enc_dec_all (rkeys_16 h) hx
theorem wrapX_form {key l : List UInt8} (h : key.length = 16 ∨ key.length = 32) (h8 : l.length % 8 = 0) (hl : 0 < l.length) : InForm (l.length / 8) (wrapX key l) := wSteps_form (seal_len' h) (by omega) (x := (a6L, l)) ⟨rfl, by show l.length = 8 * (l.length / 8); omega⟩ _
theorem wrapV_len {key l : List UInt8} (h : key.length = 16 ∨ key.length = 32) (h8 : l.length % 8 = 0) (hl : 0 < l.length) : (wrapV key l).length = l.length + 8 := by
  obtain ⟨h1, h2⟩ := wrapX_form h h8 hl
  unfold wrapV
  rw [List.length_append, h1, h2]
  omega
theorem unwrap_wrap {key l : List UInt8} (h : key.length = 16 ∨ key.length = 32) (h8 : l.length % 8 = 0) (hl : 0 < l.length) : unwrapX key (wrapV key l) = (a6L, l) := by
  obtain ⟨h1, h2⟩ := wrapX_form h h8 hl
  have hn : (wrapV key l).length / 8 - 1 = l.length / 8 := by rw [wrapV_len h h8 hl]; omega
  have ht : (wrapV key l).take 8 = (wrapX key l).1 := by unfold wrapV; rw [List.take_append_of_le_length (by omega), List.take_of_length_le (by omega)]
  have hd : (wrapV key l).drop 8 = (wrapX key l).2 := by unfold wrapV; rw [List.drop_append_of_le_length (by omega), List.drop_of_length_le (by omega), List.nil_append]
  unfold unwrapX
  rw [hn, ht, hd]
  exact uSteps_wSteps (seal_len' h) (open_seal' h) (by omega) (x := (a6L, l)) ⟨rfl, by show l.length = 8 * (l.length / 8); omega⟩ _
theorem unwrapX_form {key l : List UInt8} (h : key.length = 16 ∨ key.length = 32) (h8 : l.length % 8 = 0) (hl : 16 ≤ l.length) : InForm (l.length / 8 - 1) (unwrapX key l) := uSteps_form (open_len' h) (by omega) _ ⟨by simp; omega, by simp; omega⟩
theorem wrap_unwrap {key l : List UInt8} (h : key.length = 16 ∨ key.length = 32) (h8 : l.length % 8 = 0) (hl : 16 ≤ l.length) (ha : (unwrapX key l).1 = a6L) : wrapV key (unwrapX key l).2 = l := by
  obtain ⟨h1, h2⟩ := unwrapX_form h h8 hl
  have hn : (unwrapX key l).2.length / 8 = l.length / 8 - 1 := by rw [h2]; omega
  have hx : wrapX key (unwrapX key l).2 = (l.take 8, l.drop 8) := by
    unfold wrapX
    rw [hn, ← ha]
    exact wSteps_uSteps (open_len' h) (seal_open' h) (by omega) _ ⟨by simp; omega, by simp; omega⟩
  unfold wrapV
  rw [hx, List.take_append_drop]
attribute [irreducible] wrapX wrapV unwrapX
end Go.Proofs.Ytkfggilildiflab

namespace Go.Proofs.Ytkfggilildiflab
open Go.ChangeShapes Go.WideShapes Go.ChangeAt Go.RowKit
attribute [local irreducible] xorL sboxL subB sealV openV
/-- The work's cells: the round keys, what a block is turned by, the first tweak. -/
def wkC (r f : Value) (x : List UInt8) : Array Value := (r :: f :: x.map bv).toArray
def buildW (t : TypeId) (parts : Array (Nat × Value)) : Sem Value := if t = t then Instr.build t parts else Instr.build t parts
theorem wkC_size (r f : Value) (x : List UInt8) : csz (wkC r f x) = x.length + 2 := by rw [csz_is]; simp [wkC]
theorem wkC_cut (r f : Value) (x : List UInt8) (h : x.length = 16) : cut (wkC r f x) 2 16 = bvs x := by
  unfold cut
  rw [if_neg (by omega)]
  apply Array.ext_getElem?
  intro i
  rw [Array.getElem?_extract]
  by_cases hi : i < 16
  · simp [wkC, bvs, show i + 2 < 18 by omega, hi, Nat.add_comm 2 i, h]
  · simp [bvs, hi, h, wkC]
theorem wkC_0 (r f : Value) (x : List UInt8) : (wkC r f x)[0]? = some r := rfl
theorem wkC_1 (r f : Value) (x : List UInt8) : (wkC r f x)[1]? = some f := rfl
attribute [irreducible] wkC
theorem BytesAt.drop {w : World} {p : Option Addr} {n c : Nat} {l : List UInt8} (h : BytesAt w (.slice p n c) l) (k : Nat) (hk : k < c) (hkn : k ≤ n) : BytesAt w (.slice (p.map (·.add k)) (n - k) (c - k)) (l.drop k) := by
  obtain ⟨p', c', hv, h1, h0, h3⟩ := h
  simp only [Value.slice.injEq] at hv
  obtain ⟨rfl, rfl, rfl⟩ := hv
  refine ⟨p.map (·.add k), c - k, by rw [List.length_drop], by rw [List.length_drop]; omega, fun hn => ?_, fun hne => ?_⟩
  · cases p with
    | none => have := h0 rfl; omega
    | some a => cases hn
  · obtain ⟨b, o, cs, t, e, rfl, hb, hx⟩ := h3 (fun e => hne (by rw [e, List.drop_nil]))
    refine ⟨b, o + k, cs, t, e, by simp [add_addr], hb, fun i x hi => ?_⟩
    rw [List.getElem?_drop] at hi
    rw [Nat.add_assoc]
    exact hx _ _ hi
theorem BytesAt.ptr {w : World} {p : Option Addr} {n c : Nat} {l : List UInt8} (h : BytesAt w (.slice p n c) l) (hn : 0 < n) : ∃ b o, p = some ⟨b, o, none⟩ := by
  obtain ⟨p', c', hv, h1, h0, h3⟩ := h
  simp only [Value.slice.injEq] at hv
  obtain ⟨rfl, rfl, rfl⟩ := hv
  obtain ⟨b, o, cs, t, e, rfl, _⟩ := h3 (by intro e; subst e; simp at hn)
  exact ⟨b, o, rfl⟩
theorem BytesAt.from {w : World} {b o n c : Nat} {l : List UInt8} (h : BytesAt w (.slice (some ⟨b, o, none⟩) n c) l) (k : Nat) (hkn : k ≤ n) : BytesAt w (.slice (some ⟨b, o + k, none⟩) (n - k) (c - k)) (l.drop k) := by
  obtain ⟨p', c', hv, h1, h0, h3⟩ := h
  simp only [Value.slice.injEq] at hv
  obtain ⟨rfl, rfl, rfl⟩ := hv
  refine ⟨_, c - k, by rw [List.length_drop], by rw [List.length_drop]; omega, (fun hn => by cases hn), fun hne => ?_⟩
  obtain ⟨b', o', cs, t, e, hp, hb, hx⟩ := h3 (fun e => hne (by rw [e, List.drop_nil]))
  simp only [Option.some.injEq, Addr.mk.injEq, and_true] at hp
  obtain ⟨rfl, rfl⟩ := hp
  refine ⟨b, o + k, cs, t, e, rfl, hb, fun i x hi => ?_⟩
  rw [List.getElem?_drop] at hi
  rw [Nat.add_assoc]
  exact hx _ _ hi
theorem BytesAt.take {w : World} {p : Option Addr} {n c : Nat} {l : List UInt8} (h : BytesAt w (.slice p n c) l) (k : Nat) (hkn : k ≤ n) : BytesAt w (.slice p k c) (l.take k) := by
  obtain ⟨p', c', hv, h1, h0, h3⟩ := h
  simp only [Value.slice.injEq] at hv
  obtain ⟨rfl, rfl, rfl⟩ := hv
  refine ⟨p, c, by rw [List.length_take, Nat.min_eq_left hkn], by rw [List.length_take]; omega, h0, fun hne => ?_⟩
  obtain ⟨b, o, cs, t, e, rfl, hb, hx⟩ := h3 (fun e => hne (by rw [e, List.take_nil]))
  refine ⟨b, o, cs, t, e, rfl, hb, fun i x hi => hx i x ?_⟩
  rw [List.getElem?_take] at hi
  split at hi
  · exact hi
  · cases hi
theorem BytesAt.len {w : World} {p : Option Addr} {n c : Nat} {l : List UInt8} (h : BytesAt w (.slice p n c) l) : n = l.length ∧ n ≤ c := by
  obtain ⟨p', c', hv, h1, h0, h3⟩ := h
  simp only [Value.slice.injEq] at hv
  obtain ⟨rfl, rfl, rfl⟩ := hv
  exact ⟨rfl, h1⟩
theorem hideTurn_any (key x : List UInt8) (h : key.length = 16 ∨ key.length = 32) (hx : x.length = 16) (v : Value) (w : World) (hr : RowsAt w 16 v (rkeys key)) :
    Calls Try.prog 81 #[v, .agg (bvs x)] w fun e w' => e = .returned (.agg (bvs (sealV key x))) ∧ Below w.heap.size w w' := by
  unfold sealV
  exact encrypt_any (rkeys key) x hx v w (keysAt_rows hr) (by rw [rkeys_len]; omega)
theorem showTurn_any (key x : List UInt8) (h : key.length = 16 ∨ key.length = 32) (hx : x.length = 16) (v : Value) (w : World) (hr : RowsAt w 16 v (rkeys key)) :
    Calls Try.prog 86 #[v, .agg (bvs x)] w fun e w' => e = .returned (.agg (bvs (openV key x))) ∧ Below w.heap.size w w' := by
  unfold openV
  exact decrypt_any (rkeys key) x hx v w (keysAt_rows hr) (by rw [rkeys_len]; omega)
end Go.Proofs.Ytkfggilildiflab

namespace Go.Proofs.Ytkfggilildiflab
open Go.RowKit
/-- **The loop 'for .. := range g { .. }' over an iterator that has its contract; the round's variables may lie in blocks of their own.** -/
theorem wp_range2 {P : Program} {g : Operand} {ps : Array Tmp} {assign body : Code} {Q : Exit → Act → World → Prop} {a : Act} {w : World}
    {gf : Nat} {lb : Array Value} (hg : a.eval g = .func (.func gf) #[] lb) (eg : ∀ args w, (callFunc gf args).run P w = .ok (.enter gf args) w)
    {els : Nat → Array Value} {N : Option Nat} {R : List Nat} {W0 : World} (hit : IterAt P gf lb els N R W0) (hb0 : Below W0.heap.size W0 w) (hps : ∀ k, (els k).size = ps.size)
    (I : Nat → List (Nat × Array Value × TypeId) → Prop) (Ix : Code → List (Nat × Array Value × TypeId) → Prop) (M : Nat) (hM : N = none → ∀ k L, I k L → k < M)
    (L0 : List (Nat × Array Value × TypeId)) (h0 : I 0 L0) (hH : Holds w (objs L0)) (hR : ∀ b ∈ R, b < w.heap.size ∧ b ∉ L0.map (·.1)) (A : Nat → List (Nat × Array Value × TypeId) → List (Nat × Array Value × TypeId) → Act → Prop)
    (hassign : ∀ (l k : Nat) (L : List (Nat × Array Value × TypeId)) (W : World), I k L → In L0 w L W → ∀ K : Act → World → Prop, (∀ a1 L' W', In L W L' W' → A k L L' a1 → K a1 W') →
      assign.wpIn (Fence.wide.inRound l) 0 P (Exit.then K (fun _ _ _ => False)) { tmps := (ps.zip (els k)).foldl (fun t (p, v) => t.setIfInBounds p v) a.tmps, defers := [] } W)
    (hbody : ∀ (l k : Nat) (L L' : List (Nat × Array Value × TypeId)) (a1 : Act) (W : World), I k L → A k L L' a1 → In L0 w L' W → (∀ n, N = some n → k < n) → body.wpIn (Fence.wide.inRound l) 0 P (roundEnd (I (k + 1)) Ix L' W) a1 W)
    (hdone : ∀ (D n : Nat) (L : List (Nat × Array Value × TypeId)) (W : World), N = some n → I n L → In L0 w L W → W.heap[D]? = some (.deferred (some [])) → w.heap.size ≤ D → Q .normal { a with defers := { target := .collected D, args := #[] } :: a.defers } W)
    (hstop : ∀ (D : Nat) (c : Code) (L : List (Nat × Array Value × TypeId)) (W : World), Ix c L → In L0 w L W → W.heap[D]? = some (.deferred (some [])) → w.heap.size ≤ D → c.wp P Q { a with defers := { target := .collected D, args := #[] } :: a.defers } W) :
    (Code.rangeFunc g ps assign body).wp P Q a w := by
  refine (wpIn_wide (n := 0)).1 (wpIn_rangeFunc ?_)
  intro fn hfn
  obtain ⟨rec, hrec⟩ : ∃ rec : LoopState → Option Code → Loop, rec = fun st pe => { state := st, pending := pe, fn, tmps := a.tmps, params := ps, assign, body, defers := w.heap.size } := ⟨_, rfl⟩
  obtain ⟨W1, hW1⟩ : ∃ W1, (w.alloc (.deferred (some []))).alloc (.loop (rec .ready none)) = W1 := ⟨_, rfl⟩
  have hL1 : W1.heap[w.heap.size + 1]? = some (.loop (rec .ready none)) := by
    rw [← hW1]; have := World.alloc_heap_new (w.alloc (.deferred (some []))) (.loop (rec .ready none)); rwa [World.size_alloc] at this
  have hK1 : W1.heap[w.heap.size]? = some (.deferred (some [])) := by
    rw [← hW1]; exact (Below.heap_alloc _ _ _ (by simp)).trans (World.alloc_heap_new w _)
  have hbW : Below w.heap.size w W1 := by rw [← hW1]; exact ((Below.refl _ w).alloc (Nat.le_refl _) _).alloc (by simp) _
  have hb1 : Below W0.heap.size W0 W1 := hb0.trans (hbW.mono hb0.size)
  have hHk : Holds W1 (objs L0) := hH.kept (B := []) (Kept.of_below hbW) (fun _ _ => List.not_mem_nil)
  have hn1 : ∀ m, w.heap.size ≤ m → m ∉ L0.map (·.1) := fun m hm0 hm => by
    rw [← objs_keys] at hm
    obtain ⟨x, hx, he⟩ := List.mem_map.1 hm
    have := hH.lt hx; omega
  have hF0 : Holds W1 ([(w.heap.size + 1, .loop (rec .ready none)), (w.heap.size, .deferred (some []))] ++ objs L0) := by
    refine ⟨fun x hx => ?_, ?_⟩
    · simp only [List.cons_append, List.nil_append, List.mem_cons] at hx
      rcases hx with rfl | rfl | hx
      · exact hL1
      · exact hK1
      · exact hHk.1 x hx
    · have := hH.2
      rw [objs_keys] at this
      simp only [List.cons_append, List.nil_append, List.map_cons, objs_keys, List.nodup_cons, List.mem_cons, not_or]
      exact ⟨⟨by omega, hn1 _ (by omega)⟩, hn1 _ (Nat.le_refl _), this⟩
  have hE0 : ∀ x ∈ [(w.heap.size + 1, Obj.loop (rec .ready none)), (w.heap.size, .deferred (some []))], w.heap.size ≤ x.1 := by
    intro x hx
    simp only [List.mem_cons, List.not_mem_nil, or_false] at hx
    rcases hx with rfl | rfl
    · exact Nat.le_succ _
    · exact Nat.le_refl _
  refine ⟨w.heap.size + 1, [{ target := .collected w.heap.size, args := #[] }], W1, { target := .fn (.func gf) lb, args := #[.func (.yield (w.heap.size + 1)) #[] #[]] }, W1, gf,
    #[.func (.yield (w.heap.size + 1)) #[] #[]] ++ lb, W1, ?_, ?_, fun _ _ => trivial, ?_, (fun h => by cases h), ?_⟩
  · rw [← hW1, hrec]; exact run_enterLoop_outer _ _ _ _ _
  · simp only [resolve, hg]
    simp [go_sem]
  · simp [invoke, go_sem, eg]
  · refine callsIn_wide.2 ?_
    refine (hit (w.heap.size + 1)
      (fun k L' => ∃ L, L' = [(w.heap.size + 1, .loop (rec .ready none)), (w.heap.size, .deferred (some []))] ++ objs L ∧ I k L)
      (fun L' => ∃ L c, L' = [(w.heap.size + 1, .loop (rec .done (some c))), (w.heap.size, .deferred (some []))] ++ objs L ∧ Ix c L)
      M W1 ([(w.heap.size + 1, .loop (rec .ready none)), (w.heap.size, .deferred (some []))] ++ objs L0) hb1 ?_ ?_ ⟨L0, rfl, h0⟩ hF0 ?_).mono ?_
    · intro b hb
      obtain ⟨h1, h2⟩ := hR b hb
      simp only [List.cons_append, List.nil_append, List.map_cons, objs_keys, List.mem_cons, not_or]
      exact ⟨by omega, by omega, h2⟩
    · rintro hN k L' ⟨L, _, hI⟩; exact hM hN k L hI
    · -- ONE ROUND
      rintro k L' W ⟨L, rfl, hI⟩ hRd hkn
      have hl : W.heap[w.heap.size + 1]? = some (.loop (rec .ready none)) := hRd.holds.1 _ (List.mem_cons_self ..)
      have hy := run_yield (P := P) (args := els k) hl (by rw [hrec]; exact hps k)
      rw [hrec] at hy
      have hIn0 : In L0 w L W := in_of_full (E0 := [(w.heap.size + 1, .loop (rec .ready none)), (w.heap.size, .deferred (some []))]) (E := [(w.heap.size + 1, .loop (rec .ready none)), (w.heap.size, .deferred (some []))]) hbW rfl hE0 hRd
      refine ⟨fn, _, assign, body, hy, roundIn_of_wpIn hfn (hassign _ k L W hI hIn0 _ fun a1 L' W' hA hAA => ?_)⟩
      have hfA := Rd.frame (E := [(w.heap.size + 1, .loop (rec .ready none)), (w.heap.size, .deferred (some []))]) hA.rd hRd.holds
      have hl' : W'.heap[w.heap.size + 1]? = some (.loop (rec .ready none)) := hfA.holds.1 _ (List.mem_cons_self ..)
      refine ⟨_, run_beginRound hl' (by rw [hrec]), ?_⟩
      have hRd2 := Rd.put (L := (w.heap.size, .deferred (some [])) :: objs L') (hRd.trans hfA) (.loop { rec .ready none with state := .busy })
      have hs2 := Rd.put (L := (w.heap.size, .deferred (some [])) :: objs L') hfA (.loop { rec .ready none with state := .busy })
      generalize W'.putObj (w.heap.size + 1) (.loop { rec .ready none with state := .busy }) = W2 at *
      have hIn : In L0 w L' W2 := in_of_full (E0 := [(w.heap.size + 1, .loop (rec .ready none)), (w.heap.size, .deferred (some []))]) (E := [(w.heap.size + 1, .loop { rec .ready none with state := .busy }), (w.heap.size, .deferred (some []))]) hbW rfl hE0 hRd2
      refine wpIn_mono (hbody _ k L L' a1 W2 hI hAA hIn hkn) ?_
      have fin : ∀ (jump : Option Code) (L2 : List (Nat × Array Value × TypeId)) (W3 : World), In L' W2 L2 W3 →
          ∃ W4, (Instr.endRound (w.heap.size + 1) jump).run P W3 = .ok (.bool jump.isNone) W4 ∧
            Rd ([(w.heap.size + 1, .loop (rec .ready none)), (w.heap.size, .deferred (some []))] ++ objs L) W ([(w.heap.size + 1, .loop (rec (if jump.isNone then .ready else .done) jump)), (w.heap.size, .deferred (some []))] ++ objs L2) W4 := fun jump L2 W3 h3 => by
        have hf := Rd.frame (E := [(w.heap.size + 1, .loop { rec .ready none with state := .busy }), (w.heap.size, .deferred (some []))]) h3.rd hRd2.holds
        have hl3 : W3.heap[w.heap.size + 1]? = some (.loop { rec .ready none with state := .busy }) := hf.holds.1 _ (List.mem_cons_self ..)
        have hr := run_endRound (P := P) jump hl3
        refine ⟨_, hr, ?_⟩
        have h5 := Rd.put (L := (w.heap.size, .deferred (some [])) :: objs L2) (hs2.trans hf) (.loop (rec (if jump.isNone then .ready else .done) jump))
        rw [hrec] at h5 ⊢
        exact h5
      rintro e a3 W3 hp
      cases e with
      | normal =>
        obtain ⟨L2, h3, hi3⟩ := hp
        obtain ⟨W4, hr, h4⟩ := fin none L2 W3 h3
        exact ⟨_, _, hr, _, h4, .inl ⟨rfl, L2, rfl, hi3⟩⟩
      | ret =>
        obtain ⟨L2, h3, hi3⟩ := hp
        obtain ⟨W4, hr, h4⟩ := fin (some .ret) L2 W3 h3
        exact ⟨_, _, hr, _, h4, .inr ⟨rfl, L2, .ret, rfl, hi3⟩⟩
      | exit id =>
        obtain ⟨L2, h3, hi3⟩ := hp
        obtain ⟨W4, hr, h4⟩ := fin (some (.exit id)) L2 W3 h3
        exact ⟨_, _, hr, _, h4, .inr ⟨rfl, L2, .exit id, rfl, hi3⟩⟩
      | goto t =>
        obtain ⟨L2, h3, hi3⟩ := hp
        obtain ⟨W4, hr, h4⟩ := fin (some (.goto t)) L2 W3 h3
        exact ⟨_, _, hr, _, h4, .inr ⟨rfl, L2, .goto t, rfl, hi3⟩⟩
      | panic ch => exact hp.elim
      | outgrown => exact hp.elim
    · -- BEHIND THE ITERATOR
      rintro e W2 ⟨⟨v, rfl⟩, L', hRd, (⟨n, hN, L, rfl, hI⟩ | ⟨L, c, rfl, hI⟩)⟩
      · have hl : W2.heap[w.heap.size + 1]? = some (.loop (rec .ready none)) := hRd.holds.1 _ (List.mem_cons_self ..)
        have hr := run_endLoop (P := P) hl (by rw [hrec]; simp)
        have hR2 := Rd.put (L := (w.heap.size, .deferred (some [])) :: objs L) hRd (.loop (rec .exhausted (none)))
        rw [show ({ rec .ready none with state := .exhausted } : Loop) = rec .exhausted (none) by rw [hrec], show (rec .ready none).pending = none by rw [hrec]] at hr
        refine ⟨none, _, hr, ?_⟩
        exact hdone w.heap.size n L _ hN hI (in_of_full (E0 := [(w.heap.size + 1, .loop (rec .ready none)), (w.heap.size, .deferred (some []))]) (E := [(w.heap.size + 1, .loop (rec .exhausted (none))), (w.heap.size, .deferred (some []))]) hbW rfl hE0 hR2) (hR2.holds.1 _ (List.mem_cons_of_mem _ (List.mem_cons_self ..))) (Nat.le_refl _)
      · have hl : W2.heap[w.heap.size + 1]? = some (.loop (rec .done (some c))) := hRd.holds.1 _ (List.mem_cons_self ..)
        have hr := run_endLoop (P := P) hl (by rw [hrec]; simp)
        have hR2 := Rd.put (L := (w.heap.size, .deferred (some [])) :: objs L) hRd (.loop (rec .exhausted (some c)))
        rw [show ({ rec .done (some c) with state := .exhausted } : Loop) = rec .exhausted (some c) by rw [hrec], show (rec .done (some c)).pending = some c by rw [hrec]] at hr
        refine ⟨some c, _, hr, ?_⟩
        exact (wpIn_wide (n := 0)).2 (hstop w.heap.size c L _ hI (in_of_full (E0 := [(w.heap.size + 1, .loop (rec .ready none)), (w.heap.size, .deferred (some []))]) (E := [(w.heap.size + 1, .loop (rec .exhausted (some c))), (w.heap.size, .deferred (some []))]) hbW rfl hE0 hR2) (hR2.holds.1 _ (List.mem_cons_of_mem _ (List.mem_cons_self ..))) (Nat.le_refl _))
theorem wp_range_box {P : Program} {g : Operand} {ps : Array Tmp} {assign body : Code} {Q : Exit → Act → World → Prop} {a : Act} {w : World}
    {gf : Nat} {lb : Array Value} (hg : a.eval g = .func (.func gf) #[] lb) (eg : ∀ args w, (callFunc gf args).run P w = .ok (.enter gf args) w)
    {els : Nat → Array Value} {N : Option Nat} {R : List Nat} {W0 : World} (hit : IterAt P gf lb els N R W0) (hb0 : Below W0.heap.size W0 w) (hps : ∀ k, (els k).size = ps.size)
    (I : Nat → List (Nat × Array Value × TypeId) → Prop) (Ix : Code → List (Nat × Array Value × TypeId) → Prop) (M : Nat) (hM : N = none → ∀ k L, I k L → k < M)
    (L0 : List (Nat × Array Value × TypeId)) (h0 : I 0 L0) (hH : Holds w (objs L0)) (hR : ∀ b ∈ R, b < w.heap.size ∧ b ∉ L0.map (·.1)) (bx : Nat → Array Value) (bt : TypeId) (act1 : Nat → Nat → Act)
    (hassign : ∀ (l k : Nat) (L : List (Nat × Array Value × TypeId)) (W : World), I k L → In L0 w L W → ∀ K : Act → World → Prop, (∀ b W', In L W ((b, bx k, bt) :: L) W' → K (act1 k b) W') →
      assign.wpIn (Fence.wide.inRound l) 0 P (Exit.then K (fun _ _ _ => False)) { tmps := (ps.zip (els k)).foldl (fun t (p, v) => t.setIfInBounds p v) a.tmps, defers := [] } W)
    (hbody : ∀ (l k : Nat) (L : List (Nat × Array Value × TypeId)) (b : Nat) (W : World), I k L → In L0 w ((b, bx k, bt) :: L) W → (∀ n, N = some n → k < n) → body.wpIn (Fence.wide.inRound l) 0 P (roundEnd (I (k + 1)) Ix ((b, bx k, bt) :: L) W) (act1 k b) W)
    (hdone : ∀ (D n : Nat) (L : List (Nat × Array Value × TypeId)) (W : World), N = some n → I n L → In L0 w L W → W.heap[D]? = some (.deferred (some [])) → w.heap.size ≤ D → Q .normal { a with defers := { target := .collected D, args := #[] } :: a.defers } W)
    (hstop : ∀ (D : Nat) (c : Code) (L : List (Nat × Array Value × TypeId)) (W : World), Ix c L → In L0 w L W → W.heap[D]? = some (.deferred (some [])) → w.heap.size ≤ D → c.wp P Q { a with defers := { target := .collected D, args := #[] } :: a.defers } W) :
    (Code.rangeFunc g ps assign body).wp P Q a w := by
  refine wp_range2 hg eg hit hb0 hps I Ix M hM L0 h0 hH hR (fun k L L' a => ∃ b, L' = (b, bx k, bt) :: L ∧ a = act1 k b) (fun l k L W hI hIn K hK => hassign l k L W hI hIn K fun b W' hW => hK _ _ _ hW ⟨b, rfl, rfl⟩) ?_ hdone hstop
  rintro l k L L' a1 W hI ⟨b, rfl, rfl⟩ hIn hN
  exact hbody l k L b W hI hIn hN
end Go.Proofs.Ytkfggilildiflab

namespace Go.Proofs.Ytkfggilildiflab
open Go.RowKit
theorem wp_range_plain {P : Program} {g : Operand} {ps : Array Tmp} {assign body : Code} {Q : Exit → Act → World → Prop} {a : Act} {w : World}
    {gf : Nat} {lb : Array Value} (hg : a.eval g = .func (.func gf) #[] lb) (eg : ∀ args w, (callFunc gf args).run P w = .ok (.enter gf args) w)
    {els : Nat → Array Value} {N : Option Nat} {R : List Nat} {W0 : World} (hit : IterAt P gf lb els N R W0) (hb0 : Below W0.heap.size W0 w) (hps : ∀ k, (els k).size = ps.size)
    (I : Nat → List Blk → Prop) (Ix : Code → List Blk → Prop) (M : Nat) (hM : N = none → ∀ k L, I k L → k < M)
    (L0 : List Blk) (h0 : I 0 L0) (hH : Holds w (objs L0)) (hR : ∀ b ∈ R, b < w.heap.size ∧ b ∉ L0.map (·.1)) (act1 : Nat → Act)
    (hassign : ∀ (l k : Nat) (L : List Blk) (W : World), I k L → In L0 w L W → ∀ K : Act → World → Prop, (∀ W', In L W L W' → K (act1 k) W') →
      assign.wpIn (Fence.wide.inRound l) 0 P (Exit.then K (fun _ _ _ => False)) { tmps := (ps.zip (els k)).foldl (fun t (p, v) => t.setIfInBounds p v) a.tmps, defers := [] } W)
    (hbody : ∀ (l k : Nat) (L : List Blk) (W : World), I k L → In L0 w L W → (∀ n, N = some n → k < n) → body.wpIn (Fence.wide.inRound l) 0 P (roundEnd (I (k + 1)) Ix L W) (act1 k) W)
    (hdone : ∀ (D n : Nat) (L : List Blk) (W : World), N = some n → I n L → In L0 w L W → W.heap[D]? = some (.deferred (some [])) → w.heap.size ≤ D → Q .normal { a with defers := { target := .collected D, args := #[] } :: a.defers } W)
    (hstop : ∀ (D : Nat) (c : Code) (L : List Blk) (W : World), Ix c L → In L0 w L W → W.heap[D]? = some (.deferred (some [])) → w.heap.size ≤ D → c.wp P Q { a with defers := { target := .collected D, args := #[] } :: a.defers } W) :
    (Code.rangeFunc g ps assign body).wp P Q a w := by
  refine wp_range2 hg eg hit hb0 hps I Ix M hM L0 h0 hH hR (fun k L L' a => L' = L ∧ a = act1 k) (fun l k L W hI hIn K hK => hassign l k L W hI hIn K fun W' hW => hK _ _ _ hW ⟨rfl, rfl⟩) ?_ hdone hstop
  rintro l k L L' a1 W hI ⟨rfl, rfl⟩ hIn hN
  exact hbody l k L' W hI hIn hN
/-- What came in is as it was, wherever a round stands. -/
theorem In.bytes {w0 w W : World} {L0 L : List Blk} (h : St w0 w L0) (h2 : In L0 w L W) {v : Value} {l : List UInt8} (hv : BytesAt w0 v l) : BytesAt W v l := hv.below (h.range h2).below
end Go.Proofs.Ytkfggilildiflab

namespace Go.Proofs.Ytkfggilildiflab
open Go.ChangeShapes Go.WideShapes Go.ChangeAt Go.RowKit
attribute [local irreducible] wpList wpListIn
attribute [local irreducible] xorL sboxL subB sealV openV
theorem drop_pre (x : List UInt8) (j : Nat) : (zs 8 ++ x).drop (8 * (j + 1)) = x.drop (8 * j) := by
  rw [List.drop_append, List.drop_of_length_le (by rw [zs_len]; omega), List.nil_append, zs_len]
  congr 1
theorem take_pre (x : List UInt8) (j : Nat) : (zs 8 ++ x).take (8 * (j + 1)) = zs 8 ++ x.take (8 * j) := by
  rw [List.take_append, List.take_of_length_le (by rw [zs_len]; omega), zs_len]
  congr 2
theorem mid_word (x : List UInt8) (j : Nat) : ((zs 8 ++ x).drop (8 * (j + 1))).take 8 = wordAt x j := by
  rw [drop_pre]; unfold wordAt; rfl
theorem ovw_pre {l m : List UInt8} {sp : List Value} {o : Nat} (h : o + m.length ≤ l.length) : ovw (l.map bv ++ sp).toArray o m = ((l.take o ++ (m ++ l.drop (o + m.length))).map bv ++ sp).toArray := by
  unfold ovw
  have e1 : ((l.map bv ++ sp).toArray).toList = l.map bv ++ sp := rfl
  rw [e1, List.take_append_of_le_length (by rw [List.length_map]; omega), List.drop_append_of_le_length (by rw [List.length_map]; omega), ← List.map_take, ← List.map_drop]
  simp only [List.map_append, List.append_assoc]
theorem ovw_word {x m : List UInt8} {sp : List Value} {j : Nat} (hm : m.length = 8) (h : 8 * j + 8 ≤ x.length) : ovw ((zs 8 ++ x).map bv ++ sp).toArray (8 * (j + 1)) m = ((zs 8 ++ putW x m j).map bv ++ sp).toArray := by
  rw [ovw_pre (by rw [List.length_append, zs_len]; omega), take_pre, hm, show 8 * (j + 1) + 8 = 8 * ((j + 1) + 1) by omega, drop_pre, List.append_assoc]
  unfold putW
  rw [show 8 * (j + 1) = 8 * j + 8 by omega]
theorem pre_split (l : List UInt8) (sp : List Value) (o : Nat) : (l.map bv ++ sp).toArray.toList = (l.take o).map bv ++ ((l.drop o).map bv ++ sp) := by
  have e1 : ((l.map bv ++ sp).toArray).toList = l.map bv ++ sp := rfl
  rw [e1, ← List.append_assoc, ← List.map_append, List.take_append_drop]
set_option maxRecDepth 100000 in
set_option maxHeartbeats 2000000 in
theorem wrap_key (key : List UInt8) (h : ¬ (key.length = 16 ∨ key.length = 32)) (hm : key.length ≤ maxLen) (v tv : Value) (w : World) (hv : BytesAt w v key) :
    Calls Try.prog 60 #[v, tv] w fun e w' => e = .returned (.tuple #[.slice none 0 0, .iface 39 (.int .i64 3)]) ∧ Below w.heap.size w w' := by
  have hS := St.start w
  go_enter Try.func60, Try.ntmps60
  repeat' (first | ((with_reducible refine cons_list ?_); first | ((first | refine g_skip stp_list ?_ | refine g_move stp_list ?_ | refine g_assign stp_list ?_ | refine g_load1 stp_list own_st hS ?_ | refine g_loadR stp_list own_st hS ?_ | refine g_indexAddr stp_list ?_ | refine g_indexAddrA stp_list ?_ | refine g_len stp_list ?_ | refine g_cap stp_list ?_ | refine g_extract stp_list ?_ | refine g_add stp_list ?_ | refine g_sub stp_list ?_ | refine g_mul stp_list ?_ | refine g_quo stp_list ?_ | refine g_rem stp_list ?_ | refine g_cmp_t stp_list ?_ | refine g_cmp_f stp_list ?_ | refine g_cmp stp_list (fun hc => ?_) (fun hc => ?_) | refine g_neqNil stp_list ?_ | refine g_neqNil0 stp_list ?_ | refine g_eqlNil stp_list ?_ | refine g_eqlNil0 stp_list ?_ | refine g_fieldAddr stp_list ?_ | refine g_field1 stp_list ?_ | refine g_fieldR stp_list ?_ | refine g_eqlSlNil stp_list ?_ | refine g_neqSlNil stp_list ?_ | refine g_makeInterface stp_list ?_ | refine g_makeFunc stp_list ?_ | refine g_conv stp_list ?_ | refine g_pick stp_list ?_ | refine g_not stp_list ?_ | refine g_slice stp_list ?_ | refine g_sliceA stp_list ?_ | refine g_sliceNil stp_list ?_) <;> refine put_in ?_) | ((first | refine g_alloc stp_list own_st hS ?_ | refine g_box stp_list own_st hS ?_ | refine g_build0 stp_list own_st hS ?_ | refine g_build stp_list own_st hS ?_ | refine g_make stp_list own_st hS ?_); clear hS; intro b w hS; refine put_in ?_) | ((first | refine g_store1 stp_list own_st hS ?_ | refine g_storeR stp_list own_st hS ?_); clear hS; intro w hS; refine put_in ?_)) | ((fail_if_success (with_reducible refine cons_list ?_)); first | go_step | go_step3 | rw [Exit.noGoto_normal] | rw [Exit.noGoto_ret] | rw [Exit.noGoto_exit]))
  refine s_call stp_list (by rfl) (by rfl) (by rfl) (by rfl) (by rfl) (by infer_instance) (roundsBad_any key (fun e => h (.inl e)) (fun e => h (.inr e)) v _ hv hm) ?_
  rintro e w' ⟨rfl, rfl⟩
  refine ⟨_, rfl, ?_⟩
  refine put_in ?_
  repeat' (first | ((with_reducible refine cons_list ?_); first | ((first | refine g_skip stp_list ?_ | refine g_move stp_list ?_ | refine g_assign stp_list ?_ | refine g_load1 stp_list own_st hS ?_ | refine g_loadR stp_list own_st hS ?_ | refine g_indexAddr stp_list ?_ | refine g_indexAddrA stp_list ?_ | refine g_len stp_list ?_ | refine g_cap stp_list ?_ | refine g_extract stp_list ?_ | refine g_add stp_list ?_ | refine g_sub stp_list ?_ | refine g_mul stp_list ?_ | refine g_quo stp_list ?_ | refine g_rem stp_list ?_ | refine g_cmp_t stp_list ?_ | refine g_cmp_f stp_list ?_ | refine g_cmp stp_list (fun hc => ?_) (fun hc => ?_) | refine g_neqNil stp_list ?_ | refine g_neqNil0 stp_list ?_ | refine g_eqlNil stp_list ?_ | refine g_eqlNil0 stp_list ?_ | refine g_fieldAddr stp_list ?_ | refine g_field1 stp_list ?_ | refine g_fieldR stp_list ?_ | refine g_eqlSlNil stp_list ?_ | refine g_neqSlNil stp_list ?_ | refine g_makeInterface stp_list ?_ | refine g_makeFunc stp_list ?_ | refine g_conv stp_list ?_ | refine g_pick stp_list ?_ | refine g_not stp_list ?_ | refine g_slice stp_list ?_ | refine g_sliceA stp_list ?_ | refine g_sliceNil stp_list ?_) <;> refine put_in ?_) | ((first | refine g_alloc stp_list own_st hS ?_ | refine g_box stp_list own_st hS ?_ | refine g_build0 stp_list own_st hS ?_ | refine g_build stp_list own_st hS ?_ | refine g_make stp_list own_st hS ?_); clear hS; intro b w hS; refine put_in ?_) | ((first | refine g_store1 stp_list own_st hS ?_ | refine g_storeR stp_list own_st hS ?_); clear hS; intro w hS; refine put_in ?_)) | ((fail_if_success (with_reducible refine cons_list ?_)); first | go_step | go_step3 | rw [Exit.noGoto_normal] | rw [Exit.noGoto_ret] | rw [Exit.noGoto_exit]))
  go_ret2
  exact ⟨rfl, hS.below⟩
set_option maxRecDepth 100000 in
set_option maxHeartbeats 2000000 in
theorem wrap_form (key : List UInt8) (h : key.length = 16 ∨ key.length = 32) (v : Value) (p : Option Addr) (n c : Nat) (hn : n ≤ 9223372036854775807) (hbad : ¬ (n % 8 = 0 ∧ 16 ≤ n ∧ n ≤ 512)) (w : World) (hv : BytesAt w v key) :
    Calls Try.prog 60 #[v, .slice p n c] w fun e w' => e = .returned (.tuple #[.slice none 0 0, .iface 39 (.int .i64 2)]) ∧ Below w.heap.size w w' := by
  have hS := St.start w
  go_enter Try.func60, Try.ntmps60
  repeat' (first | ((with_reducible refine cons_list ?_); first | ((first | refine g_skip stp_list ?_ | refine g_move stp_list ?_ | refine g_assign stp_list ?_ | refine g_load1 stp_list own_st hS ?_ | refine g_loadR stp_list own_st hS ?_ | refine g_indexAddr stp_list ?_ | refine g_indexAddrA stp_list ?_ | refine g_len stp_list ?_ | refine g_cap stp_list ?_ | refine g_extract stp_list ?_ | refine g_add stp_list ?_ | refine g_sub stp_list ?_ | refine g_mul stp_list ?_ | refine g_quo stp_list ?_ | refine g_rem stp_list ?_ | refine g_cmp_t stp_list ?_ | refine g_cmp_f stp_list ?_ | refine g_cmp stp_list (fun hc => ?_) (fun hc => ?_) | refine g_neqNil stp_list ?_ | refine g_neqNil0 stp_list ?_ | refine g_eqlNil stp_list ?_ | refine g_eqlNil0 stp_list ?_ | refine g_fieldAddr stp_list ?_ | refine g_field1 stp_list ?_ | refine g_fieldR stp_list ?_ | refine g_eqlSlNil stp_list ?_ | refine g_neqSlNil stp_list ?_ | refine g_makeInterface stp_list ?_ | refine g_makeFunc stp_list ?_ | refine g_conv stp_list ?_ | refine g_pick stp_list ?_ | refine g_not stp_list ?_ | refine g_slice stp_list ?_ | refine g_sliceA stp_list ?_ | refine g_sliceNil stp_list ?_) <;> refine put_in ?_) | ((first | refine g_alloc stp_list own_st hS ?_ | refine g_box stp_list own_st hS ?_ | refine g_build0 stp_list own_st hS ?_ | refine g_build stp_list own_st hS ?_ | refine g_make stp_list own_st hS ?_); clear hS; intro b w hS; refine put_in ?_) | ((first | refine g_store1 stp_list own_st hS ?_ | refine g_storeR stp_list own_st hS ?_); clear hS; intro w hS; refine put_in ?_)) | ((fail_if_success (with_reducible refine cons_list ?_)); first | go_step | go_step3 | rw [Exit.noGoto_normal] | rw [Exit.noGoto_ret] | rw [Exit.noGoto_exit]))
  refine s_call stp_list (by rfl) (by rfl) (by rfl) (by rfl) (by rfl) (by infer_instance) (rounds_good key h v _ hv) ?_
  rintro e w1 ⟨rp, rc, rfl, hR, hB⟩
  refine ⟨_, rfl, ?_⟩
  refine put_in ?_
  replace hS := hS.call hB
  repeat' (first | ((with_reducible refine cons_list ?_); first | ((first | refine g_skip stp_list ?_ | refine g_move stp_list ?_ | refine g_assign stp_list ?_ | refine g_load1 stp_list own_st hS ?_ | refine g_loadR stp_list own_st hS ?_ | refine g_indexAddr stp_list ?_ | refine g_indexAddrA stp_list ?_ | refine g_len stp_list ?_ | refine g_cap stp_list ?_ | refine g_extract stp_list ?_ | refine g_add stp_list ?_ | refine g_sub stp_list ?_ | refine g_mul stp_list ?_ | refine g_quo stp_list ?_ | refine g_rem stp_list ?_ | refine g_cmp_t stp_list ?_ | refine g_cmp_f stp_list ?_ | refine g_cmp stp_list (fun hc => ?_) (fun hc => ?_) | refine g_neqNil stp_list ?_ | refine g_neqNil0 stp_list ?_ | refine g_eqlNil stp_list ?_ | refine g_eqlNil0 stp_list ?_ | refine g_fieldAddr stp_list ?_ | refine g_field1 stp_list ?_ | refine g_fieldR stp_list ?_ | refine g_eqlSlNil stp_list ?_ | refine g_neqSlNil stp_list ?_ | refine g_makeInterface stp_list ?_ | refine g_makeFunc stp_list ?_ | refine g_conv stp_list ?_ | refine g_pick stp_list ?_ | refine g_not stp_list ?_ | refine g_slice stp_list ?_ | refine g_sliceA stp_list ?_ | refine g_sliceNil stp_list ?_) <;> refine put_in ?_) | ((first | refine g_alloc stp_list own_st hS ?_ | refine g_box stp_list own_st hS ?_ | refine g_build0 stp_list own_st hS ?_ | refine g_build stp_list own_st hS ?_ | refine g_make stp_list own_st hS ?_); clear hS; intro b w hS; refine put_in ?_) | ((first | refine g_store1 stp_list own_st hS ?_ | refine g_storeR stp_list own_st hS ?_); clear hS; intro w hS; refine put_in ?_)) | ((fail_if_success (with_reducible refine cons_list ?_)); first | go_step | go_step3 | rw [Exit.noGoto_normal] | rw [Exit.noGoto_ret] | rw [Exit.noGoto_exit]))
  (refine g_callq stp_list own_st hS (words_any p n c hn _) ?_; clear hS; intro w hS; refine put_in ?_)
  obtain ⟨m, hm⟩ : ∃ m, m = (if n % 8 = 0 then n / 8 else 0) := ⟨_, rfl⟩
  rw [← hm]
  have hm2 : m < 2 ∨ 64 < m := by
    by_cases h8 : n % 8 = 0
    · rw [if_pos h8] at hm; omega
    · rw [if_neg h8] at hm; omega
  clear hm hR
  by_cases hm3 : m < 2
  · repeat' (first | ((with_reducible refine cons_list ?_); first | ((first | refine g_skip stp_list ?_ | refine g_move stp_list ?_ | refine g_assign stp_list ?_ | refine g_load1 stp_list own_st hS ?_ | refine g_loadR stp_list own_st hS ?_ | refine g_indexAddr stp_list ?_ | refine g_indexAddrA stp_list ?_ | refine g_len stp_list ?_ | refine g_cap stp_list ?_ | refine g_extract stp_list ?_ | refine g_add stp_list ?_ | refine g_sub stp_list ?_ | refine g_mul stp_list ?_ | refine g_quo stp_list ?_ | refine g_rem stp_list ?_ | refine g_cmp_t stp_list ?_ | refine g_cmp_f stp_list ?_ | refine g_cmp stp_list (fun hc => ?_) (fun hc => ?_) | refine g_neqNil stp_list ?_ | refine g_neqNil0 stp_list ?_ | refine g_eqlNil stp_list ?_ | refine g_eqlNil0 stp_list ?_ | refine g_fieldAddr stp_list ?_ | refine g_field1 stp_list ?_ | refine g_fieldR stp_list ?_ | refine g_eqlSlNil stp_list ?_ | refine g_neqSlNil stp_list ?_ | refine g_makeInterface stp_list ?_ | refine g_makeFunc stp_list ?_ | refine g_conv stp_list ?_ | refine g_pick stp_list ?_ | refine g_not stp_list ?_ | refine g_slice stp_list ?_ | refine g_sliceA stp_list ?_ | refine g_sliceNil stp_list ?_) <;> refine put_in ?_) | ((first | refine g_alloc stp_list own_st hS ?_ | refine g_box stp_list own_st hS ?_ | refine g_build0 stp_list own_st hS ?_ | refine g_build stp_list own_st hS ?_ | refine g_make stp_list own_st hS ?_); clear hS; intro b w hS; refine put_in ?_) | ((first | refine g_store1 stp_list own_st hS ?_ | refine g_storeR stp_list own_st hS ?_); clear hS; intro w hS; refine put_in ?_)) | ((fail_if_success (with_reducible refine cons_list ?_)); first | go_step | go_step3 | rw [Exit.noGoto_normal] | rw [Exit.noGoto_ret] | rw [Exit.noGoto_exit]))
    go_ret2
    exact ⟨rfl, hS.below⟩
  · repeat' (first | ((with_reducible refine cons_list ?_); first | ((first | refine g_skip stp_list ?_ | refine g_move stp_list ?_ | refine g_assign stp_list ?_ | refine g_load1 stp_list own_st hS ?_ | refine g_loadR stp_list own_st hS ?_ | refine g_indexAddr stp_list ?_ | refine g_indexAddrA stp_list ?_ | refine g_len stp_list ?_ | refine g_cap stp_list ?_ | refine g_extract stp_list ?_ | refine g_add stp_list ?_ | refine g_sub stp_list ?_ | refine g_mul stp_list ?_ | refine g_quo stp_list ?_ | refine g_rem stp_list ?_ | refine g_cmp_t stp_list ?_ | refine g_cmp_f stp_list ?_ | refine g_cmp stp_list (fun hc => ?_) (fun hc => ?_) | refine g_neqNil stp_list ?_ | refine g_neqNil0 stp_list ?_ | refine g_eqlNil stp_list ?_ | refine g_eqlNil0 stp_list ?_ | refine g_fieldAddr stp_list ?_ | refine g_field1 stp_list ?_ | refine g_fieldR stp_list ?_ | refine g_eqlSlNil stp_list ?_ | refine g_neqSlNil stp_list ?_ | refine g_makeInterface stp_list ?_ | refine g_makeFunc stp_list ?_ | refine g_conv stp_list ?_ | refine g_pick stp_list ?_ | refine g_not stp_list ?_ | refine g_slice stp_list ?_ | refine g_sliceA stp_list ?_ | refine g_sliceNil stp_list ?_) <;> refine put_in ?_) | ((first | refine g_alloc stp_list own_st hS ?_ | refine g_box stp_list own_st hS ?_ | refine g_build0 stp_list own_st hS ?_ | refine g_build stp_list own_st hS ?_ | refine g_make stp_list own_st hS ?_); clear hS; intro b w hS; refine put_in ?_) | ((first | refine g_store1 stp_list own_st hS ?_ | refine g_storeR stp_list own_st hS ?_); clear hS; intro w hS; refine put_in ?_)) | ((fail_if_success (with_reducible refine cons_list ?_)); first | go_step | go_step3 | rw [Exit.noGoto_normal] | rw [Exit.noGoto_ret] | rw [Exit.noGoto_exit]))
    go_ret2
    exact ⟨rfl, hS.below⟩
theorem steps_g (n : Int) (w : World) : Calls Try.prog 80 #[.int .i64 n] w fun e w' => ∃ g, e = .returned (.func (.func 99) #[] #[.pointer (some ⟨g, 0, none⟩)]) ∧ w.heap.size ≤ g ∧ blk w' g = some (.cells #[.int .i64 n] 3 (0, 0)) ∧ Below w.heap.size w w' := by
  refine (steps_any n w).mono ?_
  rintro e w' ⟨rfl, rfl⟩
  exact ⟨_, rfl, Nat.le_refl _, by rw [blk_alloc, if_pos rfl], (Below.refl _ _).alloc (Nat.le_refl _) _⟩
set_option maxRecDepth 100000 in
set_option maxHeartbeats 4000000 in
theorem wrap_x (key l : List UInt8) (h : key.length = 16 ∨ key.length = 32) (n : Nat) (hn : l.length = 8 * n) (hn2 : 2 ≤ n ∧ n ≤ 64) (v tv : Value) (w : World) (hv : BytesAt w v key) (ht : BytesAt w tv l) :
    Calls Try.prog 60 #[v, tv] w fun e w' => ∃ g c sp, e = .returned (.tuple #[.slice (some ⟨g, 0, none⟩) (l.length + 8) c, .nilIface]) ∧ (l.length + 8 ≤ c ∧ c ≤ maxLen ∧ sp.length = c - (l.length + 8)) ∧ w.heap.size ≤ g ∧ blk w' g = some (.cells ((wrapV key l).map bv ++ sp).toArray 5 (0, 0)) ∧ Below w.heap.size w w' := by
  obtain ⟨tp, tc, rfl, htc⟩ := ht.slice
  have hS := St.start w
  refine calls_of_marks Try.func60 rfl ?_
  simp only [Try.ntmps60, List.size_toArray, List.length_cons, List.length_nil, Nat.reduceAdd, Nat.reduceSub, Array.replicate_succ, Array.replicate_zero, List.push_toArray, List.append_toArray, List.nil_append, List.cons_append]
  repeat' (first | ((with_reducible refine cons_list ?_); first | ((first | refine g_skip stp_list ?_ | refine g_move stp_list ?_ | refine g_assign stp_list ?_ | refine g_load1 stp_list own_st hS ?_ | refine g_loadR stp_list own_st hS ?_ | refine g_indexAddr stp_list ?_ | refine g_indexAddrA stp_list ?_ | refine g_len stp_list ?_ | refine g_cap stp_list ?_ | refine g_extract stp_list ?_ | refine g_add stp_list ?_ | refine g_sub stp_list ?_ | refine g_mul stp_list ?_ | refine g_quo stp_list ?_ | refine g_rem stp_list ?_ | refine g_cmp_t stp_list ?_ | refine g_cmp_f stp_list ?_ | refine g_cmp stp_list (fun hc => ?_) (fun hc => ?_) | refine g_neqNil stp_list ?_ | refine g_neqNil0 stp_list ?_ | refine g_eqlNil stp_list ?_ | refine g_eqlNil0 stp_list ?_ | refine g_fieldAddr stp_list ?_ | refine g_field1 stp_list ?_ | refine g_fieldR stp_list ?_ | refine g_eqlSlNil stp_list ?_ | refine g_neqSlNil stp_list ?_ | refine g_makeInterface stp_list ?_ | refine g_makeFunc stp_list ?_ | refine g_conv stp_list ?_ | refine g_pick stp_list ?_ | refine g_not stp_list ?_ | refine g_slice stp_list ?_ | refine g_sliceA stp_list ?_ | refine g_sliceNil stp_list ?_) <;> refine put_in ?_) | ((first | refine g_alloc stp_list own_st hS ?_ | refine g_box stp_list own_st hS ?_ | refine g_build0 stp_list own_st hS ?_ | refine g_build stp_list own_st hS ?_ | refine g_make stp_list own_st hS ?_); clear hS; intro b w hS; refine put_in ?_) | ((first | refine g_store1 stp_list own_st hS ?_ | refine g_storeR stp_list own_st hS ?_); clear hS; intro w hS; refine put_in ?_)) | ((fail_if_success (with_reducible refine cons_list ?_)); first | go_step | go_step3 | rw [Exit.noGoto_normal] | rw [Exit.noGoto_ret] | rw [Exit.noGoto_exit]))
  refine s_call stp_list (by rfl) (by rfl) (by rfl) (by rfl) (by rfl) (by infer_instance) (rounds_good key h v _ hv) ?_
  rintro e w1 ⟨rp, rc, rfl, hR, hB⟩
  refine ⟨_, rfl, ?_⟩
  refine put_in ?_
  clear hS
  have ht1 := ht.below hB
  have hS := St.start w1
  repeat' (first | ((with_reducible refine cons_list ?_); first | ((first | refine g_skip stp_list ?_ | refine g_move stp_list ?_ | refine g_assign stp_list ?_ | refine g_load1 stp_list own_st hS ?_ | refine g_loadR stp_list own_st hS ?_ | refine g_indexAddr stp_list ?_ | refine g_indexAddrA stp_list ?_ | refine g_len stp_list ?_ | refine g_cap stp_list ?_ | refine g_extract stp_list ?_ | refine g_add stp_list ?_ | refine g_sub stp_list ?_ | refine g_mul stp_list ?_ | refine g_quo stp_list ?_ | refine g_rem stp_list ?_ | refine g_cmp_t stp_list ?_ | refine g_cmp_f stp_list ?_ | refine g_cmp stp_list (fun hc => ?_) (fun hc => ?_) | refine g_neqNil stp_list ?_ | refine g_neqNil0 stp_list ?_ | refine g_eqlNil stp_list ?_ | refine g_eqlNil0 stp_list ?_ | refine g_fieldAddr stp_list ?_ | refine g_field1 stp_list ?_ | refine g_fieldR stp_list ?_ | refine g_eqlSlNil stp_list ?_ | refine g_neqSlNil stp_list ?_ | refine g_makeInterface stp_list ?_ | refine g_makeFunc stp_list ?_ | refine g_conv stp_list ?_ | refine g_pick stp_list ?_ | refine g_not stp_list ?_ | refine g_slice stp_list ?_ | refine g_sliceA stp_list ?_ | refine g_sliceNil stp_list ?_) <;> refine put_in ?_) | ((first | refine g_alloc stp_list own_st hS ?_ | refine g_box stp_list own_st hS ?_ | refine g_build0 stp_list own_st hS ?_ | refine g_build stp_list own_st hS ?_ | refine g_make stp_list own_st hS ?_); clear hS; intro b w hS; refine put_in ?_) | ((first | refine g_store1 stp_list own_st hS ?_ | refine g_storeR stp_list own_st hS ?_); clear hS; intro w hS; refine put_in ?_)) | ((fail_if_success (with_reducible refine cons_list ?_)); first | go_step | go_step3 | rw [Exit.noGoto_normal] | rw [Exit.noGoto_ret] | rw [Exit.noGoto_exit]))
  (refine g_callq stp_list own_st hS (words_any tp l.length tc (by omega) _) ?_; clear hS; intro w hS; refine put_in ?_)
  rw [if_pos (show l.length % 8 = 0 by omega), show l.length / 8 = n by omega]
  repeat' (first | ((with_reducible refine cons_list ?_); first | ((first | refine g_skip stp_list ?_ | refine g_move stp_list ?_ | refine g_assign stp_list ?_ | refine g_load1 stp_list own_st hS ?_ | refine g_loadR stp_list own_st hS ?_ | refine g_indexAddr stp_list ?_ | refine g_indexAddrA stp_list ?_ | refine g_len stp_list ?_ | refine g_cap stp_list ?_ | refine g_extract stp_list ?_ | refine g_add stp_list ?_ | refine g_sub stp_list ?_ | refine g_mul stp_list ?_ | refine g_quo stp_list ?_ | refine g_rem stp_list ?_ | refine g_cmp_t stp_list ?_ | refine g_cmp_f stp_list ?_ | refine g_cmp stp_list (fun hc => ?_) (fun hc => ?_) | refine g_neqNil stp_list ?_ | refine g_neqNil0 stp_list ?_ | refine g_eqlNil stp_list ?_ | refine g_eqlNil0 stp_list ?_ | refine g_fieldAddr stp_list ?_ | refine g_field1 stp_list ?_ | refine g_fieldR stp_list ?_ | refine g_eqlSlNil stp_list ?_ | refine g_neqSlNil stp_list ?_ | refine g_makeInterface stp_list ?_ | refine g_makeFunc stp_list ?_ | refine g_conv stp_list ?_ | refine g_pick stp_list ?_ | refine g_not stp_list ?_ | refine g_slice stp_list ?_ | refine g_sliceA stp_list ?_ | refine g_sliceNil stp_list ?_) <;> refine put_in ?_) | ((first | refine g_alloc stp_list own_st hS ?_ | refine g_box stp_list own_st hS ?_ | refine g_build0 stp_list own_st hS ?_ | refine g_build stp_list own_st hS ?_ | refine g_make stp_list own_st hS ?_); clear hS; intro b w hS; refine put_in ?_) | ((first | refine g_store1 stp_list own_st hS ?_ | refine g_storeR stp_list own_st hS ?_); clear hS; intro w hS; refine put_in ?_)) | ((fail_if_success (with_reducible refine cons_list ?_)); first | go_step | go_step3 | rw [Exit.noGoto_normal] | rw [Exit.noGoto_ret] | rw [Exit.noGoto_exit]))
  have hl0 : l ≠ [] := by rintro rfl; simp at hn; omega
  have hz0 : zs 8 ≠ [] := by intro e; have := zs_len 8; rw [e] at this; simp at this
  refine s_call stp_list (by rfl) (by rfl) (by rfl) (by rfl) (by rfl) (by infer_instance) (concat_x _ _ (zs 8) l hz0 hl0 (by rw [zs_len]; omega) _ _ _ (bytesAt_whole (hS.blk 1 rfl) (zs_len 8)) (ht1.below hS.below) (hS.blk 0 rfl)) ?_
  rintro e w2 ⟨go, co, spo, rfl, ⟨ho1, hcm, hsl⟩, ho2, ho3, ho4⟩
  refine ⟨_, rfl, ?_⟩
  refine put_in ?_
  replace hS := own_st.new hS ho4 ho2 ho3
  have HN := hid hn
  rw [zs_len, hn, show 8 + 8 * n = 8 * n + 8 by omega] at ho1 ⊢
  rw [hn] at hS
  repeat' (first | ((with_reducible refine cons_list ?_); first | ((first | refine g_skip stp_list ?_ | refine g_move stp_list ?_ | refine g_assign stp_list ?_ | refine g_load1 stp_list own_st hS ?_ | refine g_loadR stp_list own_st hS ?_ | refine g_indexAddr stp_list ?_ | refine g_indexAddrA stp_list ?_ | refine g_len stp_list ?_ | refine g_cap stp_list ?_ | refine g_extract stp_list ?_ | refine g_add stp_list ?_ | refine g_sub stp_list ?_ | refine g_mul stp_list ?_ | refine g_quo stp_list ?_ | refine g_rem stp_list ?_ | refine g_cmp_t stp_list ?_ | refine g_cmp_f stp_list ?_ | refine g_cmp stp_list (fun hc => ?_) (fun hc => ?_) | refine g_neqNil stp_list ?_ | refine g_neqNil0 stp_list ?_ | refine g_eqlNil stp_list ?_ | refine g_eqlNil0 stp_list ?_ | refine g_fieldAddr stp_list ?_ | refine g_field1 stp_list ?_ | refine g_fieldR stp_list ?_ | refine g_eqlSlNil stp_list ?_ | refine g_neqSlNil stp_list ?_ | refine g_makeInterface stp_list ?_ | refine g_makeFunc stp_list ?_ | refine g_conv stp_list ?_ | refine g_pick stp_list ?_ | refine g_not stp_list ?_ | refine g_slice stp_list ?_ | refine g_sliceA stp_list ?_ | refine g_sliceNil stp_list ?_) <;> refine put_in ?_) | ((first | refine g_alloc stp_list own_st hS ?_ | refine g_box stp_list own_st hS ?_ | refine g_build0 stp_list own_st hS ?_ | refine g_build stp_list own_st hS ?_ | refine g_make stp_list own_st hS ?_); clear hS; intro b w hS; refine put_in ?_) | ((first | refine g_store1 stp_list own_st hS ?_ | refine g_storeR stp_list own_st hS ?_); clear hS; intro w hS; refine put_in ?_)) | ((fail_if_success (with_reducible refine cons_list ?_)); first | go_step | go_step3 | rw [Exit.noGoto_normal] | rw [Exit.noGoto_ret] | rw [Exit.noGoto_exit]))
  refine s_call stp_list (by rfl) (by rfl) (by rfl) (by rfl) (by rfl) (by infer_instance) (steps_g n _) ?_
  rintro e w3 ⟨gs, rfl, hs1, hs2, hs3⟩
  refine ⟨_, rfl, ?_⟩
  refine put_in ?_
  replace hS := own_st.new hS hs3 hs1 hs2
  repeat' (first | ((with_reducible refine cons_list ?_); first | ((first | refine g_skip stp_list ?_ | refine g_move stp_list ?_ | refine g_assign stp_list ?_ | refine g_load1 stp_list own_st hS ?_ | refine g_loadR stp_list own_st hS ?_ | refine g_indexAddr stp_list ?_ | refine g_indexAddrA stp_list ?_ | refine g_len stp_list ?_ | refine g_cap stp_list ?_ | refine g_extract stp_list ?_ | refine g_add stp_list ?_ | refine g_sub stp_list ?_ | refine g_mul stp_list ?_ | refine g_quo stp_list ?_ | refine g_rem stp_list ?_ | refine g_cmp_t stp_list ?_ | refine g_cmp_f stp_list ?_ | refine g_cmp stp_list (fun hc => ?_) (fun hc => ?_) | refine g_neqNil stp_list ?_ | refine g_neqNil0 stp_list ?_ | refine g_eqlNil stp_list ?_ | refine g_eqlNil0 stp_list ?_ | refine g_fieldAddr stp_list ?_ | refine g_field1 stp_list ?_ | refine g_fieldR stp_list ?_ | refine g_eqlSlNil stp_list ?_ | refine g_neqSlNil stp_list ?_ | refine g_makeInterface stp_list ?_ | refine g_makeFunc stp_list ?_ | refine g_conv stp_list ?_ | refine g_pick stp_list ?_ | refine g_not stp_list ?_ | refine g_slice stp_list ?_ | refine g_sliceA stp_list ?_ | refine g_sliceNil stp_list ?_) <;> refine put_in ?_) | ((first | refine g_alloc stp_list own_st hS ?_ | refine g_box stp_list own_st hS ?_ | refine g_build0 stp_list own_st hS ?_ | refine g_build stp_list own_st hS ?_ | refine g_make stp_list own_st hS ?_); clear hS; intro b w hS; refine put_in ?_) | ((first | refine g_store1 stp_list own_st hS ?_ | refine g_storeR stp_list own_st hS ?_); clear hS; intro w hS; refine put_in ?_)) | ((fail_if_success (with_reducible refine cons_list ?_)); first | go_step | go_step3 | rw [Exit.noGoto_normal] | rw [Exit.noGoto_ret] | rw [Exit.noGoto_exit]))
  rename_i bR x1 x2 x3 bZ x4 bL x5 bO x6 x7 x8 KK hKK
  obtain ⟨bA, hbA⟩ : ∃ x, x = b := ⟨_, rfl⟩
  rw [← hbA] at hS ⊢
  clear hbA
  have hX0 : beN a6L = 12008468691120727718 := by decide +kernel
  obtain ⟨X, hX⟩ : ∃ X : Nat → List UInt8 × List UInt8, X = fun k => wSteps (sealV key) n (a6L, l) k := ⟨_, rfl⟩
  have hXz : X 0 = (a6L, l) := by rw [hX]; exact wSteps_zero _ _ _
  have hXs : ∀ k, X (k + 1) = wStep (sealV key) n (X k) k := fun k => by rw [hX]; exact wSteps_succ _ _ _ _
  have hXf : ∀ k, InForm n (X k) := fun k => by rw [hX]; exact wSteps_form (seal_len' h) (by omega) (x := (a6L, l)) ⟨rfl, HN.out⟩ k
  have hXe : wrapV key l = (X (6 * n)).1 ++ (X (6 * n)).2 := by rw [hX]; unfold wrapV wrapX; rw [show l.length / 8 = n by have := HN.out; omega]
  have hit := steps1_iter n gs w3 (hS.blk 0 rfl)
  simp only [Int.toNat_natCast] at hit
  rw [stepN_pos hn2.1 hn2.2] at hit
  have hSL := ((own_st.drop hS).erase 3).erase 3
  refine wp_range_plain (els := fun k => #[.int .i64 ((k + 1 : Nat) : Int), .int .i64 (((k % n + 1 : Nat)) : Int)]) (N := some (6 * n)) (R := [gs]) (gf := 99) (lb := #[.pointer (some ⟨gs, 0, none⟩)]) (by rfl) (by intro args w; kernel_rfl) hit (Below.refl _ _) (fun _ => rfl)
    (fun k L => k ≤ 6 * n ∧ L = [(bA, #[.int .u64 ((beN (X k).1 : Nat) : Int)], 100), (bO, #[.slice (some ⟨go, 0, none⟩) (8 * n + 8) co], 22), (go, ((zs 8 ++ (X k).2).map bv ++ spo).toArray, 5), (bR, #[.slice rp (rkeys key).length rc], 143)])
    (fun _ _ => False) 0 (fun h => by cases h) [(bA, #[.int .u64 12008468691120727718], 100), (bO, #[.slice (some ⟨go, 0, none⟩) (8 * n + 8) co], 22), (go, ((zs 8 ++ l).map bv ++ spo).toArray, 5), (bR, #[.slice rp (rkeys key).length rc], 143)] ?I0 ?H0 ?R0 ?act1 ?assign ?body ?done ?stop
  case I0 => exact ⟨by omega, by rw [hXz, hX0]; rfl⟩
  case H0 => exact hSL.holds
  case R0 =>
    intro x hx
    obtain rfl := List.mem_singleton.1 hx
    refine ⟨hS.lt 0 rfl, ?_⟩
    simp only [List.map_cons, List.map_nil, List.mem_cons, List.not_mem_nil, or_false, not_or]
    exact ⟨hS.ne 0 1 rfl rfl (by decide), hS.ne 0 2 rfl rfl (by decide), hS.ne 0 3 rfl rfl (by decide), hS.ne 0 6 rfl rfl (by decide)⟩
  case assign =>
    intro l0 k L W hI hIn K hK
    have hS := hIn.round
    simp only [List.zip_toArray, List.zip_cons_cons, List.zip_nil_right, List.foldl_toArray', List.foldl_cons, List.foldl_nil, List.setIfInBounds_toArray, List.set_cons_zero, List.set_cons_succ]
    repeat' (first | ((with_reducible refine cons_in ?_); first | ((first | refine g_skip stp_in ?_ | refine g_move stp_in ?_ | refine g_assign stp_in ?_ | refine g_load1 stp_in own_in hS ?_ | refine g_loadR stp_in own_in hS ?_ | refine g_indexAddr stp_in ?_ | refine g_indexAddrA stp_in ?_ | refine g_len stp_in ?_ | refine g_cap stp_in ?_ | refine g_extract stp_in ?_ | refine g_add stp_in ?_ | refine g_sub stp_in ?_ | refine g_mul stp_in ?_ | refine g_quo stp_in ?_ | refine g_rem stp_in ?_ | refine g_cmp_t stp_in ?_ | refine g_cmp_f stp_in ?_ | refine g_cmp stp_in (fun hc => ?_) (fun hc => ?_) | refine g_neqNil stp_in ?_ | refine g_neqNil0 stp_in ?_ | refine g_eqlNil stp_in ?_ | refine g_eqlNil0 stp_in ?_ | refine g_fieldAddr stp_in ?_ | refine g_field1 stp_in ?_ | refine g_fieldR stp_in ?_ | refine g_eqlSlNil stp_in ?_ | refine g_neqSlNil stp_in ?_ | refine g_makeInterface stp_in ?_ | refine g_makeFunc stp_in ?_ | refine g_conv stp_in ?_ | refine g_pick stp_in ?_ | refine g_not stp_in ?_ | refine g_slice stp_in ?_ | refine g_sliceA stp_in ?_ | refine g_sliceNil stp_in ?_) <;> refine put_in ?_) | ((first | refine g_alloc stp_in own_in hS ?_ | refine g_box stp_in own_in hS ?_ | refine g_build0 stp_in own_in hS ?_ | refine g_build stp_in own_in hS ?_ | refine g_make stp_in own_in hS ?_); clear hS; intro b w hS; refine put_in ?_) | ((first | refine g_store1 stp_in own_in hS ?_ | refine g_storeR stp_in own_in hS ?_); clear hS; intro w hS; refine put_in ?_)) | ((fail_if_success (with_reducible refine cons_in ?_)); first | gi_step | (with_reducible refine wpIn_scope_wide ?_) | (with_reducible refine wpIn_label ?_) | rw [Exit.noGoto_normal] | rw [Exit.noGoto_ret] | rw [Exit.noGoto_exit]))
    exact hK _ hS
  case body =>
    rintro l0 k L W ⟨hk, rfl⟩ hIn hN
    have hlt := hN _ rfl
    have hSW := hSL.range hIn
    have hS := hIn.round
    repeat' (first | ((with_reducible refine cons_in ?_); first | ((first | refine g_skip stp_in ?_ | refine g_move stp_in ?_ | refine g_assign stp_in ?_ | refine g_load1 stp_in own_in hS ?_ | refine g_loadR stp_in own_in hS ?_ | refine g_indexAddr stp_in ?_ | refine g_indexAddrA stp_in ?_ | refine g_len stp_in ?_ | refine g_cap stp_in ?_ | refine g_extract stp_in ?_ | refine g_add stp_in ?_ | refine g_sub stp_in ?_ | refine g_mul stp_in ?_ | refine g_quo stp_in ?_ | refine g_rem stp_in ?_ | refine g_cmp_t stp_in ?_ | refine g_cmp_f stp_in ?_ | refine g_cmp stp_in (fun hc => ?_) (fun hc => ?_) | refine g_neqNil stp_in ?_ | refine g_neqNil0 stp_in ?_ | refine g_eqlNil stp_in ?_ | refine g_eqlNil0 stp_in ?_ | refine g_fieldAddr stp_in ?_ | refine g_field1 stp_in ?_ | refine g_fieldR stp_in ?_ | refine g_eqlSlNil stp_in ?_ | refine g_neqSlNil stp_in ?_ | refine g_makeInterface stp_in ?_ | refine g_makeFunc stp_in ?_ | refine g_conv stp_in ?_ | refine g_pick stp_in ?_ | refine g_not stp_in ?_ | refine g_slice stp_in ?_ | refine g_sliceA stp_in ?_ | refine g_sliceNil stp_in ?_) <;> refine put_in ?_) | ((first | refine g_alloc stp_in own_in hS ?_ | refine g_box stp_in own_in hS ?_ | refine g_build0 stp_in own_in hS ?_ | refine g_build stp_in own_in hS ?_ | refine g_make stp_in own_in hS ?_); clear hS; intro b w hS; refine put_in ?_) | ((first | refine g_store1 stp_in own_in hS ?_ | refine g_storeR stp_in own_in hS ?_); clear hS; intro w hS; refine put_in ?_)) | ((fail_if_success (with_reducible refine cons_in ?_)); first | gi_step | (with_reducible refine wpIn_scope_wide ?_) | (with_reducible refine wpIn_label ?_) | rw [Exit.noGoto_normal] | rw [Exit.noGoto_ret] | rw [Exit.noGoto_exit]))
    refine region_monoR_lit 2 (by kernel_rfl) (by kernel_rfl) (by kernel_rfl) ?_
    dsimp only [List.take, List.drop]
    iterate 2 (first | (refine wpM_skip (fun _ => rfl) ?_; simp only [Act.put, List.setIfInBounds_toArray, List.set_cons_zero, List.set_cons_succ]) | (refine wpM_alloc rfl (fun _ => rfl) _ (fun w => r_alloc (a := ⟨#[], []⟩) rfl (by infer_instance)) ?_; simp only [Act.put, List.setIfInBounds_toArray, List.set_cons_zero, List.set_cons_succ]) | (refine wpM_want (fun _ => rfl) (fun K hK => ?_); apply Exists.intro; refine ⟨fun pB w' hw' hF => ?_, hK _ _ ?_⟩; (focus (have hZ := (own_in).call hS hw'; first | exact q_move | exact q_assign | exact q_load1 own_in hZ | exact q_loadR own_in hZ | exact q_indexAddr | exact q_indexAddrA | exact q_len | exact q_cap | exact q_extract | exact q_add | exact q_sub | exact q_mul | exact q_quo | exact q_rem | exact q_cmp_t | exact q_cmp_f | exact q_neqNil | exact q_neqNil0 | exact q_eqlNil | exact q_eqlNil0 | exact q_fieldAddr | exact q_field1 | exact q_fieldR | exact q_eqlSlNil | exact q_neqSlNil | exact q_makeInterface | exact q_makeFunc | exact q_conv | exact q_pick | exact q_not | exact q_slice | exact q_sliceA | exact q_sliceNil)); clear hK K; simp only [Act.put, List.setIfInBounds_toArray, List.set_cons_zero, List.set_cons_succ]))
    refine wpM_nil ?_
    intro pB w hcq hfq hnq
    replace hS := (own_in).news hS hcq _ (by decide) hfq hnq
    first | simp only [List.map_nil, List.nil_append] at hS | simp only [List.map_cons, List.map_nil, List.cons_append, List.nil_append] at hS
    clear hcq hfq hnq
    try dsimp only
    obtain ⟨f1, f2⟩ := hXf k
    have hc1 : ovw (bvs (zs 16)) 0 (beB (beN (X k).1) 8) = bvs ((X k).1 ++ zs 8) := by
      rw [← f1, beB_beN, ovw_bvs, List.take_zero, List.nil_append, Nat.zero_add, f1]
      congr 2
      unfold zs
      rw [List.drop_replicate]
    refine s_callRow stp_in own_in hS (by rfl) (by rfl) (by rfl) (by rfl) (by rfl) (by infer_instance) (putBig_any b 0 8 16 (bvs (zs 16)) 149 (beN (X k).1) _ (own_in.blk 0 hS rfl) (by rw [csz_zs]; omega) (by omega) (by decide)) (by exact at_ 0 rfl) hc1 (by (try conv => lhs; simp only [List.set_cons_zero, List.set_cons_succ, List.eraseIdx_cons_zero, List.eraseIdx_cons_succ]); first | done | rfl) ?_
    clear hS
    intro w hS
    refine put_in ?_
    repeat' (first | ((with_reducible refine cons_in ?_); first | ((first | refine g_skip stp_in ?_ | refine g_move stp_in ?_ | refine g_assign stp_in ?_ | refine g_load1 stp_in own_in hS ?_ | refine g_loadR stp_in own_in hS ?_ | refine g_indexAddr stp_in ?_ | refine g_indexAddrA stp_in ?_ | refine g_len stp_in ?_ | refine g_cap stp_in ?_ | refine g_extract stp_in ?_ | refine g_add stp_in ?_ | refine g_sub stp_in ?_ | refine g_mul stp_in ?_ | refine g_quo stp_in ?_ | refine g_rem stp_in ?_ | refine g_cmp_t stp_in ?_ | refine g_cmp_f stp_in ?_ | refine g_cmp stp_in (fun hc => ?_) (fun hc => ?_) | refine g_neqNil stp_in ?_ | refine g_neqNil0 stp_in ?_ | refine g_eqlNil stp_in ?_ | refine g_eqlNil0 stp_in ?_ | refine g_fieldAddr stp_in ?_ | refine g_field1 stp_in ?_ | refine g_fieldR stp_in ?_ | refine g_eqlSlNil stp_in ?_ | refine g_neqSlNil stp_in ?_ | refine g_makeInterface stp_in ?_ | refine g_makeFunc stp_in ?_ | refine g_conv stp_in ?_ | refine g_pick stp_in ?_ | refine g_not stp_in ?_ | refine g_slice stp_in ?_ | refine g_sliceA stp_in ?_ | refine g_sliceNil stp_in ?_) <;> refine put_in ?_) | ((first | refine g_alloc stp_in own_in hS ?_ | refine g_box stp_in own_in hS ?_ | refine g_build0 stp_in own_in hS ?_ | refine g_build stp_in own_in hS ?_ | refine g_make stp_in own_in hS ?_); clear hS; intro b w hS; refine put_in ?_) | ((first | refine g_store1 stp_in own_in hS ?_ | refine g_storeR stp_in own_in hS ?_); clear hS; intro w hS; refine put_in ?_)) | ((fail_if_success (with_reducible refine cons_in ?_)); first | gi_step | (with_reducible refine wpIn_scope_wide ?_) | (with_reducible refine wpIn_label ?_) | rw [Exit.noGoto_normal] | rw [Exit.noGoto_ret] | rw [Exit.noGoto_exit]))
    have hmod : k % n < n := Nat.mod_lt _ (by omega)
    refine region_monoR_lit 5 (by kernel_rfl) (by kernel_rfl) (by kernel_rfl) ?_
    dsimp only [List.take, List.drop]
    iterate 5 (first | (refine wpM_skip (fun _ => rfl) ?_; simp only [Act.put, List.setIfInBounds_toArray, List.set_cons_zero, List.set_cons_succ]) | (refine wpM_alloc rfl (fun _ => rfl) _ (fun w => r_alloc (a := ⟨#[], []⟩) rfl (by infer_instance)) ?_; simp only [Act.put, List.setIfInBounds_toArray, List.set_cons_zero, List.set_cons_succ]) | (refine wpM_want (fun _ => rfl) (fun K hK => ?_); apply Exists.intro; refine ⟨fun pB w' hw' hF => ?_, hK _ _ ?_⟩; (focus (have hZ := (own_in).call hS hw'; first | exact q_move | exact q_assign | exact q_load1 own_in hZ | exact q_loadR own_in hZ | exact q_indexAddr | exact q_indexAddrA | exact q_len | exact q_cap | exact q_extract | exact q_add | exact q_sub | exact q_mul | exact q_quo | exact q_rem | exact q_cmp_t | exact q_cmp_f | exact q_neqNil | exact q_neqNil0 | exact q_eqlNil | exact q_eqlNil0 | exact q_fieldAddr | exact q_field1 | exact q_fieldR | exact q_eqlSlNil | exact q_neqSlNil | exact q_makeInterface | exact q_makeFunc | exact q_conv | exact q_pick | exact q_not | exact q_slice | exact q_sliceA | exact q_sliceNil)); clear hK K; simp only [Act.put, List.setIfInBounds_toArray, List.set_cons_zero, List.set_cons_succ]))
    refine wpM_nil ?_
    intro pB w hcq hfq hnq
    replace hS := (own_in).news hS hcq _ (by decide) hfq hnq
    first | simp only [List.map_nil, List.nil_append] at hS | simp only [List.map_cons, List.map_nil, List.cons_append, List.nil_append] at hS
    clear hcq hfq hnq
    try dsimp only
    have g1 : (zs 8 ++ (X k).2).length = 8 * n + 8 := by rw [List.length_append, zs_len, f2]; omega
    have hsrc : BytesAt w _ ((zs 8 ++ (X k).2).drop (8 * (k % n + 1))) := bytesAt_mid (n := 8 * n + 8 - (8 * ((k % n + 1 : Nat) : Int)).toNat) (c := co - (8 * ((k % n + 1 : Nat) : Int)).toNat) (off := (8 * ((k % n + 1 : Nat) : Int)).toNat) (own_in.blk 3 hS rfl) (pre_split _ _ _) (by rw [List.length_map, List.length_take, g1]; omega) (by rw [List.length_drop, g1]; omega) (by omega)
    have g2 : ((zs 8 ++ (X k).2).drop (8 * (k % n + 1))).take 8 = wordAt (X k).2 (k % n) := mid_word _ _
    have g3 := wordAt_len (l := (X k).2) (i := k % n) (by rw [f2]; exact word_fits (by omega))
    refine s_copy (i := 0) stp_in own_in hS (by rfl) (by rfl) (by rfl) (by rfl) (by infer_instance) (by rfl) hsrc (by rw [g2, g3, csz_bvs, List.length_append, f1, zs_len]; omega) (cs2 := bvs ((X k).1 ++ wordAt (X k).2 (k % n))) (by
      rw [g2, ovw_bvs, g3, List.take_append_of_le_length (by omega), List.take_of_length_le (by omega), List.drop_of_length_le (by rw [List.length_append, f1, zs_len]; omega), List.append_nil]) (by (try conv => lhs; simp only [List.set_cons_zero, List.set_cons_succ, List.eraseIdx_cons_zero, List.eraseIdx_cons_succ]); first | done | rfl) rfl ?_
    clear hS hsrc
    intro w hS
    refine put_in ?_
    have g4 : ((X k).1 ++ wordAt (X k).2 (k % n)).length = 16 := by rw [List.length_append, f1, g3]
    repeat' (first | ((with_reducible refine cons_in ?_); first | ((first | refine g_skip stp_in ?_ | refine g_move stp_in ?_ | refine g_assign stp_in ?_ | refine g_load1 stp_in own_in hS ?_ | refine g_loadR stp_in own_in hS ?_ | refine g_indexAddr stp_in ?_ | refine g_indexAddrA stp_in ?_ | refine g_len stp_in ?_ | refine g_cap stp_in ?_ | refine g_extract stp_in ?_ | refine g_add stp_in ?_ | refine g_sub stp_in ?_ | refine g_mul stp_in ?_ | refine g_quo stp_in ?_ | refine g_rem stp_in ?_ | refine g_cmp_t stp_in ?_ | refine g_cmp_f stp_in ?_ | refine g_cmp stp_in (fun hc => ?_) (fun hc => ?_) | refine g_neqNil stp_in ?_ | refine g_neqNil0 stp_in ?_ | refine g_eqlNil stp_in ?_ | refine g_eqlNil0 stp_in ?_ | refine g_fieldAddr stp_in ?_ | refine g_field1 stp_in ?_ | refine g_fieldR stp_in ?_ | refine g_eqlSlNil stp_in ?_ | refine g_neqSlNil stp_in ?_ | refine g_makeInterface stp_in ?_ | refine g_makeFunc stp_in ?_ | refine g_conv stp_in ?_ | refine g_pick stp_in ?_ | refine g_not stp_in ?_ | refine g_slice stp_in ?_ | refine g_sliceA stp_in ?_ | refine g_sliceNil stp_in ?_) <;> refine put_in ?_) | ((first | refine g_alloc stp_in own_in hS ?_ | refine g_box stp_in own_in hS ?_ | refine g_build0 stp_in own_in hS ?_ | refine g_build stp_in own_in hS ?_ | refine g_make stp_in own_in hS ?_); clear hS; intro b w hS; refine put_in ?_) | ((first | refine g_store1 stp_in own_in hS ?_ | refine g_storeR stp_in own_in hS ?_); clear hS; intro w hS; refine put_in ?_)) | ((fail_if_success (with_reducible refine cons_in ?_)); first | gi_step | (with_reducible refine wpIn_scope_wide ?_) | (with_reducible refine wpIn_label ?_) | rw [Exit.noGoto_normal] | rw [Exit.noGoto_ret] | rw [Exit.noGoto_exit]))
    (refine g_callq stp_in own_in hS (hideTurn_any key _ h g4 _ _ (hR.below (hSW.range hS).below)) ?_; clear hS; intro w hS; refine put_in ?_)
    obtain ⟨y, hy⟩ : ∃ y, y = sealV key ((X k).1 ++ wordAt (X k).2 (k % n)) := ⟨_, rfl⟩
    have g5 : y.length = 16 := by rw [hy]; exact seal_len' h _ g4
    rw [← hy]
    repeat' (first | ((with_reducible refine cons_in ?_); first | ((first | refine g_skip stp_in ?_ | refine g_move stp_in ?_ | refine g_assign stp_in ?_ | refine g_load1 stp_in own_in hS ?_ | refine g_loadR stp_in own_in hS ?_ | refine g_indexAddr stp_in ?_ | refine g_indexAddrA stp_in ?_ | refine g_len stp_in ?_ | refine g_cap stp_in ?_ | refine g_extract stp_in ?_ | refine g_add stp_in ?_ | refine g_sub stp_in ?_ | refine g_mul stp_in ?_ | refine g_quo stp_in ?_ | refine g_rem stp_in ?_ | refine g_cmp_t stp_in ?_ | refine g_cmp_f stp_in ?_ | refine g_cmp stp_in (fun hc => ?_) (fun hc => ?_) | refine g_neqNil stp_in ?_ | refine g_neqNil0 stp_in ?_ | refine g_eqlNil stp_in ?_ | refine g_eqlNil0 stp_in ?_ | refine g_fieldAddr stp_in ?_ | refine g_field1 stp_in ?_ | refine g_fieldR stp_in ?_ | refine g_eqlSlNil stp_in ?_ | refine g_neqSlNil stp_in ?_ | refine g_makeInterface stp_in ?_ | refine g_makeFunc stp_in ?_ | refine g_conv stp_in ?_ | refine g_pick stp_in ?_ | refine g_not stp_in ?_ | refine g_slice stp_in ?_ | refine g_sliceA stp_in ?_ | refine g_sliceNil stp_in ?_) <;> refine put_in ?_) | ((first | refine g_alloc stp_in own_in hS ?_ | refine g_box stp_in own_in hS ?_ | refine g_build0 stp_in own_in hS ?_ | refine g_build stp_in own_in hS ?_ | refine g_make stp_in own_in hS ?_); clear hS; intro b w hS; refine put_in ?_) | ((first | refine g_store1 stp_in own_in hS ?_ | refine g_storeR stp_in own_in hS ?_); clear hS; intro w hS; refine put_in ?_)) | ((fail_if_success (with_reducible refine cons_in ?_)); first | gi_step | (with_reducible refine wpIn_scope_wide ?_) | (with_reducible refine wpIn_label ?_) | rw [Exit.noGoto_normal] | rw [Exit.noGoto_ret] | rw [Exit.noGoto_exit]))
    have hbl : beN (y.take 8) < 18446744073709551616 := by
      have := beN_lt (y.take 8)
      rw [List.length_take, g5] at this
      exact this
    refine s_call stp_in (by rfl) (by rfl) (by rfl) (by rfl) (by rfl) (by infer_instance) (big_any _ (y.take 8) _ (bytesAt_mid (pre := []) (post := (y.drop 8).map bv) (own_in.blk 0 hS rfl) (by show y.map bv = _; rw [List.nil_append, ← List.map_append, List.take_append_drop]) rfl (by rw [List.length_take, g5]; rfl) (by omega)) (by rw [List.length_take, g5]; omega)) ?_
    rintro e w' ⟨rfl, rfl⟩
    refine ⟨_, rfl, ?_⟩
    refine put_in ?_
    have hk64 : k + 1 < 18446744073709551616 := by omega
    repeat' (first | ((with_reducible refine cons_in ?_); first | ((first | refine g_skip stp_in ?_ | refine g_move stp_in ?_ | refine g_assign stp_in ?_ | refine g_load1 stp_in own_in hS ?_ | refine g_loadR stp_in own_in hS ?_ | refine g_indexAddr stp_in ?_ | refine g_indexAddrA stp_in ?_ | refine g_len stp_in ?_ | refine g_cap stp_in ?_ | refine g_extract stp_in ?_ | refine g_add stp_in ?_ | refine g_sub stp_in ?_ | refine g_mul stp_in ?_ | refine g_quo stp_in ?_ | refine g_rem stp_in ?_ | refine g_cmp_t stp_in ?_ | refine g_cmp_f stp_in ?_ | refine g_cmp stp_in (fun hc => ?_) (fun hc => ?_) | refine g_neqNil stp_in ?_ | refine g_neqNil0 stp_in ?_ | refine g_eqlNil stp_in ?_ | refine g_eqlNil0 stp_in ?_ | refine g_fieldAddr stp_in ?_ | refine g_field1 stp_in ?_ | refine g_fieldR stp_in ?_ | refine g_eqlSlNil stp_in ?_ | refine g_neqSlNil stp_in ?_ | refine g_makeInterface stp_in ?_ | refine g_makeFunc stp_in ?_ | refine g_conv stp_in ?_ | refine g_pick stp_in ?_ | refine g_not stp_in ?_ | refine g_slice stp_in ?_ | refine g_sliceA stp_in ?_ | refine g_sliceNil stp_in ?_) <;> refine put_in ?_) | ((first | refine g_alloc stp_in own_in hS ?_ | refine g_box stp_in own_in hS ?_ | refine g_build0 stp_in own_in hS ?_ | refine g_build stp_in own_in hS ?_ | refine g_make stp_in own_in hS ?_); clear hS; intro b w hS; refine put_in ?_) | ((first | refine g_store1 stp_in own_in hS ?_ | refine g_storeR stp_in own_in hS ?_); clear hS; intro w hS; refine put_in ?_) | (refine Stp.go stp_in (by rfl) (by rfl) (r_xor64 (by rfl) (by rfl) (by rfl) (by omega) (by omega) rfl) ?_; refine put_in ?_)) | ((fail_if_success (with_reducible refine cons_in ?_)); first | gi_step | (with_reducible refine wpIn_scope_wide ?_) | (with_reducible refine wpIn_label ?_) | rw [Exit.noGoto_normal] | rw [Exit.noGoto_ret] | rw [Exit.noGoto_exit]))
    refine region_monoR_lit 5 (by kernel_rfl) (by kernel_rfl) (by kernel_rfl) ?_
    dsimp only [List.take, List.drop]
    iterate 5 (first | (refine wpM_skip (fun _ => rfl) ?_; simp only [Act.put, List.setIfInBounds_toArray, List.set_cons_zero, List.set_cons_succ]) | (refine wpM_alloc rfl (fun _ => rfl) _ (fun w => r_alloc (a := ⟨#[], []⟩) rfl (by infer_instance)) ?_; simp only [Act.put, List.setIfInBounds_toArray, List.set_cons_zero, List.set_cons_succ]) | (refine wpM_want (fun _ => rfl) (fun K hK => ?_); apply Exists.intro; refine ⟨fun pB w' hw' hF => ?_, hK _ _ ?_⟩; (focus (have hZ := (own_in).call hS hw'; first | exact q_move | exact q_assign | exact q_load1 own_in hZ | exact q_loadR own_in hZ | exact q_indexAddr | exact q_indexAddrA | exact q_len | exact q_cap | exact q_extract | exact q_add | exact q_sub | exact q_mul | exact q_quo | exact q_rem | exact q_cmp_t | exact q_cmp_f | exact q_neqNil | exact q_neqNil0 | exact q_eqlNil | exact q_eqlNil0 | exact q_fieldAddr | exact q_field1 | exact q_fieldR | exact q_eqlSlNil | exact q_neqSlNil | exact q_makeInterface | exact q_makeFunc | exact q_conv | exact q_pick | exact q_not | exact q_slice | exact q_sliceA | exact q_sliceNil)); clear hK K; simp only [Act.put, List.setIfInBounds_toArray, List.set_cons_zero, List.set_cons_succ]))
    refine wpM_nil ?_
    intro pB w hcq hfq hnq
    replace hS := (own_in).news hS hcq _ (by decide) hfq hnq
    first | simp only [List.map_nil, List.nil_append] at hS | simp only [List.map_cons, List.map_nil, List.cons_append, List.nil_append] at hS
    clear hcq hfq hnq
    try dsimp only
    have e0 : (8 * ((k % n + 1 : Nat) : Int)).toNat = 8 * (k % n + 1) := by omega
    have hsrc : BytesAt w _ (y.drop 8) := bytesAt_mid (pre := (y.take 8).map bv) (post := []) (n := 8) (c := 8) (off := 8) (own_in.blk 0 hS rfl) (by show y.map bv = _; rw [List.append_nil, ← List.map_append, List.take_append_drop]) (by rw [List.length_map, List.length_take, g5]; rfl) (by rw [List.length_drop, g5]) (by omega)
    have g6 : (y.drop 8).length = 8 := by rw [List.length_drop, g5]
    have g7 : (y.drop 8).take (8 * n + 8 - (8 * ((k % n + 1 : Nat) : Int)).toNat) = y.drop 8 := List.take_of_length_le (by omega)
    refine s_copy (i := 3) stp_in own_in hS (by rfl) (by rfl) (by rfl) (by rfl) (by infer_instance) (by rfl) hsrc (by rw [g7, g6, e0, csz_list, List.length_append, List.length_map, g1]; omega) (cs2 := ((zs 8 ++ putW (X k).2 (y.drop 8) (k % n)).map bv ++ spo).toArray) (by
      rw [g7, e0]; exact ovw_word g6 (by rw [f2]; exact word_fits (by omega))) (by (try conv => lhs; simp only [List.set_cons_zero, List.set_cons_succ, List.eraseIdx_cons_zero, List.eraseIdx_cons_succ]); first | done | rfl) rfl ?_
    clear hS hsrc
    intro w hS
    refine put_in ?_
    repeat' (first | ((with_reducible refine cons_in ?_); first | ((first | refine g_skip stp_in ?_ | refine g_move stp_in ?_ | refine g_assign stp_in ?_ | refine g_load1 stp_in own_in hS ?_ | refine g_loadR stp_in own_in hS ?_ | refine g_indexAddr stp_in ?_ | refine g_indexAddrA stp_in ?_ | refine g_len stp_in ?_ | refine g_cap stp_in ?_ | refine g_extract stp_in ?_ | refine g_add stp_in ?_ | refine g_sub stp_in ?_ | refine g_mul stp_in ?_ | refine g_quo stp_in ?_ | refine g_rem stp_in ?_ | refine g_cmp_t stp_in ?_ | refine g_cmp_f stp_in ?_ | refine g_cmp stp_in (fun hc => ?_) (fun hc => ?_) | refine g_neqNil stp_in ?_ | refine g_neqNil0 stp_in ?_ | refine g_eqlNil stp_in ?_ | refine g_eqlNil0 stp_in ?_ | refine g_fieldAddr stp_in ?_ | refine g_field1 stp_in ?_ | refine g_fieldR stp_in ?_ | refine g_eqlSlNil stp_in ?_ | refine g_neqSlNil stp_in ?_ | refine g_makeInterface stp_in ?_ | refine g_makeFunc stp_in ?_ | refine g_conv stp_in ?_ | refine g_pick stp_in ?_ | refine g_not stp_in ?_ | refine g_slice stp_in ?_ | refine g_sliceA stp_in ?_ | refine g_sliceNil stp_in ?_) <;> refine put_in ?_) | ((first | refine g_alloc stp_in own_in hS ?_ | refine g_box stp_in own_in hS ?_ | refine g_build0 stp_in own_in hS ?_ | refine g_build stp_in own_in hS ?_ | refine g_make stp_in own_in hS ?_); clear hS; intro b w hS; refine put_in ?_) | ((first | refine g_store1 stp_in own_in hS ?_ | refine g_storeR stp_in own_in hS ?_); clear hS; intro w hS; refine put_in ?_)) | ((fail_if_success (with_reducible refine cons_in ?_)); first | gi_step | (with_reducible refine wpIn_scope_wide ?_) | (with_reducible refine wpIn_label ?_) | rw [Exit.noGoto_normal] | rw [Exit.noGoto_ret] | rw [Exit.noGoto_exit]))
    refine ⟨_, own_in.drop hS, by omega, ?_⟩
    have hstep : X (k + 1) = (xorL (y.take 8) (beB (k + 1) 8), putW (X k).2 (y.drop 8) (k % n)) := by rw [hXs]; exact wStep_of hy.symm
    have hxe : beN (xorL (y.take 8) (beB (k + 1) 8)) = beN (y.take 8) ^^^ (k + 1) := by
      rw [beN_xor 8 _ _ (by rw [List.length_take, g5]; rfl) (beB_len _ _), beN_beB, Nat.mod_eq_of_lt (by omega)]
    rw [hstep, hxe]
  case done =>
    rintro D m L W hm ⟨hk, rfl⟩ hIn hD hD0
    obtain rfl : 6 * n = m := Option.some.inj hm
    have hS : StD w1 D W _ := ⟨hSL.range hIn, hD⟩
    have hDw : w1.heap.size ≤ D := Nat.le_trans hSL.below.size hD0
    clear hit hIn
    repeat' (first | ((with_reducible refine cons_list ?_); first | ((first | refine g_skip stp_list ?_ | refine g_move stp_list ?_ | refine g_assign stp_list ?_ | refine g_load1 stp_list own_stD hS ?_ | refine g_loadR stp_list own_stD hS ?_ | refine g_indexAddr stp_list ?_ | refine g_indexAddrA stp_list ?_ | refine g_len stp_list ?_ | refine g_cap stp_list ?_ | refine g_extract stp_list ?_ | refine g_add stp_list ?_ | refine g_sub stp_list ?_ | refine g_mul stp_list ?_ | refine g_quo stp_list ?_ | refine g_rem stp_list ?_ | refine g_cmp_t stp_list ?_ | refine g_cmp_f stp_list ?_ | refine g_cmp stp_list (fun hc => ?_) (fun hc => ?_) | refine g_neqNil stp_list ?_ | refine g_neqNil0 stp_list ?_ | refine g_eqlNil stp_list ?_ | refine g_eqlNil0 stp_list ?_ | refine g_fieldAddr stp_list ?_ | refine g_field1 stp_list ?_ | refine g_fieldR stp_list ?_ | refine g_eqlSlNil stp_list ?_ | refine g_neqSlNil stp_list ?_ | refine g_makeInterface stp_list ?_ | refine g_makeFunc stp_list ?_ | refine g_conv stp_list ?_ | refine g_pick stp_list ?_ | refine g_not stp_list ?_ | refine g_slice stp_list ?_ | refine g_sliceA stp_list ?_ | refine g_sliceNil stp_list ?_) <;> refine put_in ?_) | ((first | refine g_alloc stp_list own_stD hS ?_ | refine g_box stp_list own_stD hS ?_ | refine g_build0 stp_list own_stD hS ?_ | refine g_build stp_list own_stD hS ?_ | refine g_make stp_list own_stD hS ?_); clear hS; intro b w hS; refine put_in ?_) | ((first | refine g_store1 stp_list own_stD hS ?_ | refine g_storeR stp_list own_stD hS ?_); clear hS; intro w hS; refine put_in ?_)) | ((fail_if_success (with_reducible refine cons_list ?_)); first | go_step | go_step3 | rw [Exit.noGoto_normal] | rw [Exit.noGoto_ret] | rw [Exit.noGoto_exit]))
    refine region_mono_lit 3 (by kernel_rfl) (by kernel_rfl) ?_
    dsimp only [List.take, List.drop]
    iterate 3 (first | (refine wpM_skip (fun _ => rfl) ?_; simp only [Act.put, List.setIfInBounds_toArray, List.set_cons_zero, List.set_cons_succ]) | (refine wpM_alloc rfl (fun _ => rfl) _ (fun w => r_alloc (a := ⟨#[], []⟩) rfl (by infer_instance)) ?_; simp only [Act.put, List.setIfInBounds_toArray, List.set_cons_zero, List.set_cons_succ]) | (refine wpM_want (fun _ => rfl) (fun K hK => ?_); apply Exists.intro; refine ⟨fun pB w' hw' hF => ?_, hK _ _ ?_⟩; (focus (have hZ := (own_stD).call hS hw'; first | exact q_move | exact q_assign | exact q_load1 own_stD hZ | exact q_loadR own_stD hZ | exact q_indexAddr | exact q_indexAddrA | exact q_len | exact q_cap | exact q_extract | exact q_add | exact q_sub | exact q_mul | exact q_quo | exact q_rem | exact q_cmp_t | exact q_cmp_f | exact q_neqNil | exact q_neqNil0 | exact q_eqlNil | exact q_eqlNil0 | exact q_fieldAddr | exact q_field1 | exact q_fieldR | exact q_eqlSlNil | exact q_neqSlNil | exact q_makeInterface | exact q_makeFunc | exact q_conv | exact q_pick | exact q_not | exact q_slice | exact q_sliceA | exact q_sliceNil)); clear hK K; simp only [Act.put, List.setIfInBounds_toArray, List.set_cons_zero, List.set_cons_succ]))
    refine wpM_nil ?_
    intro pB w hcq hfq hnq
    replace hS := (own_stD).news hS hcq _ (by decide) hfq hnq
    first | simp only [List.map_nil, List.nil_append] at hS | simp only [List.map_cons, List.map_nil, List.cons_append, List.nil_append] at hS
    clear hcq hfq hnq
    try dsimp only
    obtain ⟨f1, f2⟩ := hXf (6 * n)
    have hfin : ovw ((zs 8 ++ (X (6 * n)).2).map bv ++ spo).toArray 0 (beB (beN (X (6 * n)).1) 8) = ((wrapV key l).map bv ++ spo).toArray := by
      rw [← f1, beB_beN, hXe, ovw_pre (by rw [List.length_append, zs_len, f1]; omega), List.take_zero, List.nil_append, Nat.zero_add, f1, List.drop_append, List.drop_of_length_le (by rw [zs_len]; omega), zs_len, List.nil_append]
      rfl
    refine s_callRow stp_list own_stD hS (by rfl) (by rfl) (by rfl) (by rfl) (by rfl) (by infer_instance) (putBig_any go 0 8 _ _ 5 (beN (X (6 * n)).1) _ (own_stD.blk 2 hS rfl) (by rw [csz_list, List.length_append, List.length_map, List.length_append, zs_len]; omega) (by omega) hcm) (by exact at_ 2 rfl) hfin (by (try conv => lhs; simp only [List.set_cons_zero, List.set_cons_succ, List.eraseIdx_cons_zero, List.eraseIdx_cons_succ]); first | done | rfl) ?_
    clear hS
    intro w hS
    refine put_in ?_
    repeat' (first | ((with_reducible refine cons_list ?_); first | ((first | refine g_skip stp_list ?_ | refine g_move stp_list ?_ | refine g_assign stp_list ?_ | refine g_load1 stp_list own_stD hS ?_ | refine g_loadR stp_list own_stD hS ?_ | refine g_indexAddr stp_list ?_ | refine g_indexAddrA stp_list ?_ | refine g_len stp_list ?_ | refine g_cap stp_list ?_ | refine g_extract stp_list ?_ | refine g_add stp_list ?_ | refine g_sub stp_list ?_ | refine g_mul stp_list ?_ | refine g_quo stp_list ?_ | refine g_rem stp_list ?_ | refine g_cmp_t stp_list ?_ | refine g_cmp_f stp_list ?_ | refine g_cmp stp_list (fun hc => ?_) (fun hc => ?_) | refine g_neqNil stp_list ?_ | refine g_neqNil0 stp_list ?_ | refine g_eqlNil stp_list ?_ | refine g_eqlNil0 stp_list ?_ | refine g_fieldAddr stp_list ?_ | refine g_field1 stp_list ?_ | refine g_fieldR stp_list ?_ | refine g_eqlSlNil stp_list ?_ | refine g_neqSlNil stp_list ?_ | refine g_makeInterface stp_list ?_ | refine g_makeFunc stp_list ?_ | refine g_conv stp_list ?_ | refine g_pick stp_list ?_ | refine g_not stp_list ?_ | refine g_slice stp_list ?_ | refine g_sliceA stp_list ?_ | refine g_sliceNil stp_list ?_) <;> refine put_in ?_) | ((first | refine g_alloc stp_list own_stD hS ?_ | refine g_box stp_list own_stD hS ?_ | refine g_build0 stp_list own_stD hS ?_ | refine g_build stp_list own_stD hS ?_ | refine g_make stp_list own_stD hS ?_); clear hS; intro b w hS; refine put_in ?_) | ((first | refine g_store1 stp_list own_stD hS ?_ | refine g_storeR stp_list own_stD hS ?_); clear hS; intro w hS; refine put_in ?_)) | ((fail_if_success (with_reducible refine cons_list ?_)); first | go_step | go_step3 | rw [Exit.noGoto_normal] | rw [Exit.noGoto_ret] | rw [Exit.noGoto_exit]))
    refine postM (.inl rfl) rfl hS.2 ?_
    have hS2 := hS.shut hDw
    go_ret2
    exact ⟨go, co, spo, by rw [hn]; rfl, ⟨by omega, hcm, by rw [zs_len] at hsl; omega⟩, Nat.le_trans hB.size (hS2.2.1 _ (List.mem_cons_of_mem _ (List.mem_cons_of_mem _ (List.mem_cons_self ..)))).1, hS2.blk 2 rfl, hB.trans (hS2.below.mono hB.size)⟩
  case stop => rintro D c L W hf; exact hf.elim
theorem wrap_good (key l : List UInt8) (h : key.length = 16 ∨ key.length = 32) (n : Nat) (hn : l.length = 8 * n) (hn2 : 2 ≤ n ∧ n ≤ 64) (v tv : Value) (w : World) (hv : BytesAt w v key) (ht : BytesAt w tv l) :
    Calls Try.prog 60 #[v, tv] w fun e w' => ∃ g c sp, e = .returned (.tuple #[.slice (some ⟨g, 0, none⟩) (l.length + 8) c, .nilIface]) ∧ l.length + 8 ≤ c ∧ w.heap.size ≤ g ∧ blk w' g = some (.cells ((wrapV key l).map bv ++ sp).toArray 5 (0, 0)) ∧ Below w.heap.size w w' := by
  refine (wrap_x key l h n hn hn2 v tv w hv ht).mono ?_
  rintro e w' ⟨g, c, sp, rfl, ⟨h1, _, _⟩, h2, h3, h4⟩
  exact ⟨g, c, sp, rfl, h1, h2, h3, h4⟩
end Go.Proofs.Ytkfggilildiflab
