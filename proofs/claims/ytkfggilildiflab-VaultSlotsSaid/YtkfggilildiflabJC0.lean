/-
  Laws that the claims of this seat use, of several texts in one: UnwrapW, RefWrapP, RefWrapW. No condition of their own.
-/
import Derived.Test.YtkfggilildiflabJB2

namespace Go.Proofs.Ytkfggilildiflab
open Go.ChangeShapes Go.WideShapes Go.ChangeAt Go.RowKit
attribute [local irreducible] wpList wpListIn
attribute [local irreducible] xorL sboxL subB sealV openV
theorem drop_p8 {p : List UInt8} (hp : p.length = 8) (x : List UInt8) (j : Nat) : (p ++ x).drop (8 * (j + 1)) = x.drop (8 * j) := by
  rw [List.drop_append, List.drop_of_length_le (by omega), List.nil_append, hp]
  congr 1
theorem take_p8 {p : List UInt8} (hp : p.length = 8) (x : List UInt8) (j : Nat) : (p ++ x).take (8 * (j + 1)) = p ++ x.take (8 * j) := by
  rw [List.take_append, List.take_of_length_le (by omega), hp]
  congr 2
theorem word_p8 {p : List UInt8} (hp : p.length = 8) (x : List UInt8) (j : Nat) : ((p ++ x).drop (8 * (j + 1))).take 8 = wordAt x j := by
  rw [drop_p8 hp]; unfold wordAt; rfl
theorem ovw_p8 {p x m : List UInt8} (hp : p.length = 8) {sp : List Value} {j : Nat} (hm : m.length = 8) (h : 8 * j + 8 ≤ x.length) : ovw ((p ++ x).map bv ++ sp).toArray (8 * (j + 1)) m = ((p ++ putW x m j).map bv ++ sp).toArray := by
  rw [ovw_pre (by rw [List.length_append]; omega), take_p8 hp, hm, show 8 * (j + 1) + 8 = 8 * ((j + 1) + 1) by omega, drop_p8 hp, List.append_assoc]
  unfold putW
  rw [show 8 * (j + 1) = 8 * j + 8 by omega]
theorem a6_iff {a : List UInt8} (ha : a.length = 8) : a = a6L ↔ ((beN a : Nat) : Int) = 12008468691120727718 := by
  have hX0 : beN a6L = 12008468691120727718 := by decide +kernel
  constructor
  · rintro rfl; rw [hX0]; rfl
  · intro h
    have h2 : beN a = beN a6L := by rw [hX0]; omega
    have e1 := beB_beN a
    have e2 := beB_beN a6L
    rw [ha, h2] at e1
    rw [← e1]; exact e2
set_option maxRecDepth 100000 in
set_option maxHeartbeats 2000000 in
theorem unwrap_key (key : List UInt8) (h : ¬ (key.length = 16 ∨ key.length = 32)) (hm : key.length ≤ maxLen) (v tv : Value) (w : World) (hv : BytesAt w v key) :
    Calls Try.prog 64 #[v, tv] w fun e w' => e = .returned (.tuple #[.slice none 0 0, .iface 39 (.int .i64 3)]) ∧ Below w.heap.size w w' := by
  have hS := St.start w
  go_enter Try.func64, Try.ntmps64
  repeat' (first | ((with_reducible refine cons_list ?_); first | ((first | refine g_skip stp_list ?_ | refine g_move stp_list ?_ | refine g_assign stp_list ?_ | refine g_load1 stp_list own_st hS ?_ | refine g_loadR stp_list own_st hS ?_ | refine g_indexAddr stp_list ?_ | refine g_indexAddrA stp_list ?_ | refine g_len stp_list ?_ | refine g_cap stp_list ?_ | refine g_extract stp_list ?_ | refine g_add stp_list ?_ | refine g_sub stp_list ?_ | refine g_mul stp_list ?_ | refine g_quo stp_list ?_ | refine g_rem stp_list ?_ | refine g_cmp_t stp_list ?_ | refine g_cmp_f stp_list ?_ | refine g_cmp stp_list (fun hc => ?_) (fun hc => ?_) | refine g_neqNil stp_list ?_ | refine g_neqNil0 stp_list ?_ | refine g_eqlNil stp_list ?_ | refine g_eqlNil0 stp_list ?_ | refine g_fieldAddr stp_list ?_ | refine g_field1 stp_list ?_ | refine g_fieldR stp_list ?_ | refine g_eqlSlNil stp_list ?_ | refine g_neqSlNil stp_list ?_ | refine g_makeInterface stp_list ?_ | refine g_makeFunc stp_list ?_ | refine g_conv stp_list ?_ | refine g_pick stp_list ?_ | refine g_not stp_list ?_ | refine g_slice stp_list ?_ | refine g_sliceA stp_list ?_ | refine g_sliceNil stp_list ?_) <;> refine put_in ?_) | ((first | refine g_alloc stp_list own_st hS ?_ | refine g_box stp_list own_st hS ?_ | refine g_build0 stp_list own_st hS ?_ | refine g_build stp_list own_st hS ?_ | refine g_make stp_list own_st hS ?_); clear hS; intro b w hS; refine put_in ?_) | ((first | refine g_store1 stp_list own_st hS ?_ | refine g_storeR stp_list own_st hS ?_); clear hS; intro w hS; refine put_in ?_)) | ((fail_if_success (with_reducible refine cons_list ?_)); first | go_step | go_step3 | rw [Exit.noGoto_normal] | rw [Exit.noGoto_ret] | rw [Exit.noGoto_exit]))
  refine s_call stp_list (by rfl) (by rfl) (by rfl) (by rfl) (by rfl) (by infer_instance) (roundsBad_any key (fun e => h (.inl e)) (fun e => h (.inr e)) v _ hv hm) ?_
  rintro e w' ⟨rfl, rfl⟩
  refine ⟨_, rfl, ?_⟩
  refine put_in ?_
  repeat' (first | ((with_reducible refine cons_list ?_); first | ((first | refine g_skip stp_list ?_ | refine g_move stp_list ?_ | refine g_assign stp_list ?_ | refine g_load1 stp_list own_st hS ?_ | refine g_loadR stp_list own_st hS ?_ | refine g_indexAddr stp_list ?_ | refine g_indexAddrA stp_list ?_ | refine g_len stp_list ?_ | refine g_cap stp_list ?_ | refine g_extract stp_list ?_ | refine g_add stp_list ?_ | refine g_sub stp_list ?_ | refine g_mul stp_list ?_ | refine g_quo stp_list ?_ | refine g_rem stp_list ?_ | refine g_cmp_t stp_list ?_ | refine g_cmp_f stp_list ?_ | refine g_cmp stp_list (fun hc => ?_) (fun hc => ?_) | refine g_neqNil stp_list ?_ | refine g_neqNil0 stp_list ?_ | refine g_eqlNil stp_list ?_ | refine g_eqlNil0 stp_list ?_ | refine g_fieldAddr stp_list ?_ | refine g_field1 stp_list ?_ | refine g_fieldR stp_list ?_ | refine g_eqlSlNil stp_list ?_ | refine g_neqSlNil stp_list ?_ | refine g_makeInterface stp_list ?_ | refine g_makeFunc stp_list ?_ | refine g_conv stp_list ?_ | refine g_pick stp_list ?_ | refine g_not stp_list ?_ | refine g_slice stp_list ?_ | refine g_sliceA stp_list ?_ | refine g_sliceNil stp_list ?_) <;> refine put_in ?_) | ((first | refine g_alloc stp_list own_st hS ?_ | refine g_box stp_list own_st hS ?_ | refine g_build0 stp_list own_st hS ?_ | refine g_build stp_list own_st hS ?_ | refine g_make stp_list own_st hS ?_); clear hS; intro b w hS; refine put_in ?_) | ((first | refine g_store1 stp_list own_st hS ?_ | refine g_storeR stp_list own_st hS ?_); clear hS; intro w hS; refine put_in ?_)) | ((fail_if_success (with_reducible refine cons_list ?_)); first | go_step | go_step3 | rw [Exit.noGoto_normal] | rw [Exit.noGoto_ret] | rw [Exit.noGoto_exit]))
  go_ret2
  exact ⟨rfl, hS.below⟩
set_option maxRecDepth 100000 in
set_option maxHeartbeats 2000000 in
theorem unwrap_form (key : List UInt8) (h : key.length = 16 ∨ key.length = 32) (v : Value) (p : Option Addr) (n c : Nat) (hn : n ≤ 9223372036854775807) (hbad : ¬ (n % 8 = 0 ∧ 24 ≤ n ∧ n ≤ 520)) (w : World) (hv : BytesAt w v key) :
    Calls Try.prog 64 #[v, .slice p n c] w fun e w' => e = .returned (.tuple #[.slice none 0 0, .iface 39 (.int .i64 2)]) ∧ Below w.heap.size w w' := by
  have hS := St.start w
  go_enter Try.func64, Try.ntmps64
  repeat' (first | ((with_reducible refine cons_list ?_); first | ((first | refine g_skip stp_list ?_ | refine g_move stp_list ?_ | refine g_assign stp_list ?_ | refine g_load1 stp_list own_st hS ?_ | refine g_loadR stp_list own_st hS ?_ | refine g_indexAddr stp_list ?_ | refine g_indexAddrA stp_list ?_ | refine g_len stp_list ?_ | refine g_cap stp_list ?_ | refine g_extract stp_list ?_ | refine g_add stp_list ?_ | refine g_sub stp_list ?_ | refine g_mul stp_list ?_ | refine g_quo stp_list ?_ | refine g_rem stp_list ?_ | refine g_cmp_t stp_list ?_ | refine g_cmp_f stp_list ?_ | refine g_cmp stp_list (fun hc => ?_) (fun hc => ?_) | refine g_neqNil stp_list ?_ | refine g_neqNil0 stp_list ?_ | refine g_eqlNil stp_list ?_ | refine g_eqlNil0 stp_list ?_ | refine g_fieldAddr stp_list ?_ | refine g_field1 stp_list ?_ | refine g_fieldR stp_list ?_ | refine g_eqlSlNil stp_list ?_ | refine g_neqSlNil stp_list ?_ | refine g_makeInterface stp_list ?_ | refine g_makeFunc stp_list ?_ | refine g_conv stp_list ?_ | refine g_pick stp_list ?_ | refine g_not stp_list ?_ | refine g_slice stp_list ?_ | refine g_sliceA stp_list ?_ | refine g_sliceNil stp_list ?_) <;> refine put_in ?_) | ((first | refine g_alloc stp_list own_st hS ?_ | refine g_box stp_list own_st hS ?_ | refine g_build0 stp_list own_st hS ?_ | refine g_build stp_list own_st hS ?_ | refine g_make stp_list own_st hS ?_); clear hS; intro b w hS; refine put_in ?_) | ((first | refine g_store1 stp_list own_st hS ?_ | refine g_storeR stp_list own_st hS ?_); clear hS; intro w hS; refine put_in ?_)) | ((fail_if_success (with_reducible refine cons_list ?_)); first | go_step | go_step3 | rw [Exit.noGoto_normal] | rw [Exit.noGoto_ret] | rw [Exit.noGoto_exit]))
  refine s_call stp_list (by rfl) (by rfl) (by rfl) (by rfl) (by rfl) (by infer_instance) (rounds_good key h v _ hv) ?_
  rintro e w1 ⟨rp, rc, rfl, hR, hB⟩
  refine ⟨_, rfl, ?_⟩
  refine put_in ?_
  replace hS := hS.call hB
  repeat' (first | ((with_reducible refine cons_list ?_); first | ((first | refine g_skip stp_list ?_ | refine g_move stp_list ?_ | refine g_assign stp_list ?_ | refine g_load1 stp_list own_st hS ?_ | refine g_loadR stp_list own_st hS ?_ | refine g_indexAddr stp_list ?_ | refine g_indexAddrA stp_list ?_ | refine g_len stp_list ?_ | refine g_cap stp_list ?_ | refine g_extract stp_list ?_ | refine g_add stp_list ?_ | refine g_sub stp_list ?_ | refine g_mul stp_list ?_ | refine g_quo stp_list ?_ | refine g_rem stp_list ?_ | refine g_cmp_t stp_list ?_ | refine g_cmp_f stp_list ?_ | refine g_cmp stp_list (fun hc => ?_) (fun hc => ?_) | refine g_neqNil stp_list ?_ | refine g_neqNil0 stp_list ?_ | refine g_eqlNil stp_list ?_ | refine g_eqlNil0 stp_list ?_ | refine g_fieldAddr stp_list ?_ | refine g_field1 stp_list ?_ | refine g_fieldR stp_list ?_ | refine g_eqlSlNil stp_list ?_ | refine g_neqSlNil stp_list ?_ | refine g_makeInterface stp_list ?_ | refine g_makeFunc stp_list ?_ | refine g_conv stp_list ?_ | refine g_pick stp_list ?_ | refine g_not stp_list ?_ | refine g_slice stp_list ?_ | refine g_sliceA stp_list ?_ | refine g_sliceNil stp_list ?_) <;> refine put_in ?_) | ((first | refine g_alloc stp_list own_st hS ?_ | refine g_box stp_list own_st hS ?_ | refine g_build0 stp_list own_st hS ?_ | refine g_build stp_list own_st hS ?_ | refine g_make stp_list own_st hS ?_); clear hS; intro b w hS; refine put_in ?_) | ((first | refine g_store1 stp_list own_st hS ?_ | refine g_storeR stp_list own_st hS ?_); clear hS; intro w hS; refine put_in ?_)) | ((fail_if_success (with_reducible refine cons_list ?_)); first | go_step | go_step3 | rw [Exit.noGoto_normal] | rw [Exit.noGoto_ret] | rw [Exit.noGoto_exit]))
  (refine g_callq stp_list own_st hS (words_any p n c hn _) ?_; clear hS; intro w hS; refine put_in ?_)
  obtain ⟨m, hm⟩ : ∃ m, m = (if n % 8 = 0 then n / 8 else 0) := ⟨_, rfl⟩
  rw [← hm]
  have hm2 : m < 3 ∨ 65 < m := by
    by_cases h8 : n % 8 = 0
    · rw [if_pos h8] at hm; omega
    · rw [if_neg h8] at hm; omega
  have hm4 : m ≤ 9223372036854775807 := by
    by_cases h8 : n % 8 = 0
    · rw [if_pos h8] at hm; omega
    · rw [if_neg h8] at hm; omega
  clear hm hR
  by_cases hm3 : m < 3
  · repeat' (first | ((with_reducible refine cons_list ?_); first | ((first | refine g_skip stp_list ?_ | refine g_move stp_list ?_ | refine g_assign stp_list ?_ | refine g_load1 stp_list own_st hS ?_ | refine g_loadR stp_list own_st hS ?_ | refine g_indexAddr stp_list ?_ | refine g_indexAddrA stp_list ?_ | refine g_len stp_list ?_ | refine g_cap stp_list ?_ | refine g_extract stp_list ?_ | refine g_add stp_list ?_ | refine g_sub stp_list ?_ | refine g_mul stp_list ?_ | refine g_quo stp_list ?_ | refine g_rem stp_list ?_ | refine g_cmp_t stp_list ?_ | refine g_cmp_f stp_list ?_ | refine g_cmp stp_list (fun hc => ?_) (fun hc => ?_) | refine g_neqNil stp_list ?_ | refine g_neqNil0 stp_list ?_ | refine g_eqlNil stp_list ?_ | refine g_eqlNil0 stp_list ?_ | refine g_fieldAddr stp_list ?_ | refine g_field1 stp_list ?_ | refine g_fieldR stp_list ?_ | refine g_eqlSlNil stp_list ?_ | refine g_neqSlNil stp_list ?_ | refine g_makeInterface stp_list ?_ | refine g_makeFunc stp_list ?_ | refine g_conv stp_list ?_ | refine g_pick stp_list ?_ | refine g_not stp_list ?_ | refine g_slice stp_list ?_ | refine g_sliceA stp_list ?_ | refine g_sliceNil stp_list ?_) <;> refine put_in ?_) | ((first | refine g_alloc stp_list own_st hS ?_ | refine g_box stp_list own_st hS ?_ | refine g_build0 stp_list own_st hS ?_ | refine g_build stp_list own_st hS ?_ | refine g_make stp_list own_st hS ?_); clear hS; intro b w hS; refine put_in ?_) | ((first | refine g_store1 stp_list own_st hS ?_ | refine g_storeR stp_list own_st hS ?_); clear hS; intro w hS; refine put_in ?_)) | ((fail_if_success (with_reducible refine cons_list ?_)); first | go_step | go_step3 | rw [Exit.noGoto_normal] | rw [Exit.noGoto_ret] | rw [Exit.noGoto_exit]))
    go_ret2
    exact ⟨rfl, hS.below⟩
  · repeat' (first | ((with_reducible refine cons_list ?_); first | ((first | refine g_skip stp_list ?_ | refine g_move stp_list ?_ | refine g_assign stp_list ?_ | refine g_load1 stp_list own_st hS ?_ | refine g_loadR stp_list own_st hS ?_ | refine g_indexAddr stp_list ?_ | refine g_indexAddrA stp_list ?_ | refine g_len stp_list ?_ | refine g_cap stp_list ?_ | refine g_extract stp_list ?_ | refine g_add stp_list ?_ | refine g_sub stp_list ?_ | refine g_mul stp_list ?_ | refine g_quo stp_list ?_ | refine g_rem stp_list ?_ | refine g_cmp_t stp_list ?_ | refine g_cmp_f stp_list ?_ | refine g_cmp stp_list (fun hc => ?_) (fun hc => ?_) | refine g_neqNil stp_list ?_ | refine g_neqNil0 stp_list ?_ | refine g_eqlNil stp_list ?_ | refine g_eqlNil0 stp_list ?_ | refine g_fieldAddr stp_list ?_ | refine g_field1 stp_list ?_ | refine g_fieldR stp_list ?_ | refine g_eqlSlNil stp_list ?_ | refine g_neqSlNil stp_list ?_ | refine g_makeInterface stp_list ?_ | refine g_makeFunc stp_list ?_ | refine g_conv stp_list ?_ | refine g_pick stp_list ?_ | refine g_not stp_list ?_ | refine g_slice stp_list ?_ | refine g_sliceA stp_list ?_ | refine g_sliceNil stp_list ?_) <;> refine put_in ?_) | ((first | refine g_alloc stp_list own_st hS ?_ | refine g_box stp_list own_st hS ?_ | refine g_build0 stp_list own_st hS ?_ | refine g_build stp_list own_st hS ?_ | refine g_make stp_list own_st hS ?_); clear hS; intro b w hS; refine put_in ?_) | ((first | refine g_store1 stp_list own_st hS ?_ | refine g_storeR stp_list own_st hS ?_); clear hS; intro w hS; refine put_in ?_)) | ((fail_if_success (with_reducible refine cons_list ?_)); first | go_step | go_step3 | rw [Exit.noGoto_normal] | rw [Exit.noGoto_ret] | rw [Exit.noGoto_exit]))
    go_ret2
    exact ⟨rfl, hS.below⟩
/-- What Unwrap hands back. -/
def UnwrapOf (key l : List UInt8) (n : Nat) (w : World) (e : Ending) (w' : World) : Prop :=
  if (unwrapX key l).1 = a6L then (∃ g c sp, e = .returned (.tuple #[.slice (some ⟨g, 0, none⟩) (8 * n) c, .nilIface]) ∧ 8 * n ≤ c ∧ w.heap.size ≤ g ∧ blk w' g = some (.cells ((unwrapX key l).2.map bv ++ sp).toArray 5 (0, 0)) ∧ Below w.heap.size w w')
  else e = .returned (.tuple #[.slice none 0 0, .iface 39 (.int .i64 4)]) ∧ Below w.heap.size w w'
set_option maxRecDepth 100000 in
set_option maxHeartbeats 4000000 in
theorem unwrap_good (key l : List UInt8) (h : key.length = 16 ∨ key.length = 32) (n : Nat) (hn : l.length = 8 * n + 8) (hn2 : 2 ≤ n ∧ n ≤ 64) (v tv : Value) (w : World) (hv : BytesAt w v key) (ht : BytesAt w tv l) :
    Calls Try.prog 64 #[v, tv] w (UnwrapOf key l n w) := by
  obtain ⟨tp, tc, rfl, htc⟩ := ht.slice
  have hS := St.start w
  go_enter Try.func64, Try.ntmps64
  repeat' (first | ((with_reducible refine cons_list ?_); first | ((first | refine g_skip stp_list ?_ | refine g_move stp_list ?_ | refine g_assign stp_list ?_ | refine g_load1 stp_list own_st hS ?_ | refine g_loadR stp_list own_st hS ?_ | refine g_indexAddr stp_list ?_ | refine g_indexAddrA stp_list ?_ | refine g_len stp_list ?_ | refine g_cap stp_list ?_ | refine g_extract stp_list ?_ | refine g_add stp_list ?_ | refine g_sub stp_list ?_ | refine g_mul stp_list ?_ | refine g_quo stp_list ?_ | refine g_rem stp_list ?_ | refine g_cmp_t stp_list ?_ | refine g_cmp_f stp_list ?_ | refine g_cmp stp_list (fun hc => ?_) (fun hc => ?_) | refine g_neqNil stp_list ?_ | refine g_neqNil0 stp_list ?_ | refine g_eqlNil stp_list ?_ | refine g_eqlNil0 stp_list ?_ | refine g_fieldAddr stp_list ?_ | refine g_field1 stp_list ?_ | refine g_fieldR stp_list ?_ | refine g_eqlSlNil stp_list ?_ | refine g_neqSlNil stp_list ?_ | refine g_makeInterface stp_list ?_ | refine g_makeFunc stp_list ?_ | refine g_conv stp_list ?_ | refine g_pick stp_list ?_ | refine g_not stp_list ?_ | refine g_slice stp_list ?_ | refine g_sliceA stp_list ?_ | refine g_sliceNil stp_list ?_) <;> refine put_in ?_) | ((first | refine g_alloc stp_list own_st hS ?_ | refine g_box stp_list own_st hS ?_ | refine g_build0 stp_list own_st hS ?_ | refine g_build stp_list own_st hS ?_ | refine g_make stp_list own_st hS ?_); clear hS; intro b w hS; refine put_in ?_) | ((first | refine g_store1 stp_list own_st hS ?_ | refine g_storeR stp_list own_st hS ?_); clear hS; intro w hS; refine put_in ?_)) | ((fail_if_success (with_reducible refine cons_list ?_)); first | go_step | go_step3 | rw [Exit.noGoto_normal] | rw [Exit.noGoto_ret] | rw [Exit.noGoto_exit]))
  refine s_call stp_list (by rfl) (by rfl) (by rfl) (by rfl) (by rfl) (by infer_instance) (rounds_good key h v _ hv) ?_
  rintro e w1 ⟨rp, rc, rfl, hR, hB⟩
  refine ⟨_, rfl, ?_⟩
  refine put_in ?_
  clear hS
  have ht1 := ht.below hB
  have hS := St.start w1
  repeat' (first | ((with_reducible refine cons_list ?_); first | ((first | refine g_skip stp_list ?_ | refine g_move stp_list ?_ | refine g_assign stp_list ?_ | refine g_load1 stp_list own_st hS ?_ | refine g_loadR stp_list own_st hS ?_ | refine g_indexAddr stp_list ?_ | refine g_indexAddrA stp_list ?_ | refine g_len stp_list ?_ | refine g_cap stp_list ?_ | refine g_extract stp_list ?_ | refine g_add stp_list ?_ | refine g_sub stp_list ?_ | refine g_mul stp_list ?_ | refine g_quo stp_list ?_ | refine g_rem stp_list ?_ | refine g_cmp_t stp_list ?_ | refine g_cmp_f stp_list ?_ | refine g_cmp stp_list (fun hc => ?_) (fun hc => ?_) | refine g_neqNil stp_list ?_ | refine g_neqNil0 stp_list ?_ | refine g_eqlNil stp_list ?_ | refine g_eqlNil0 stp_list ?_ | refine g_fieldAddr stp_list ?_ | refine g_field1 stp_list ?_ | refine g_fieldR stp_list ?_ | refine g_eqlSlNil stp_list ?_ | refine g_neqSlNil stp_list ?_ | refine g_makeInterface stp_list ?_ | refine g_makeFunc stp_list ?_ | refine g_conv stp_list ?_ | refine g_pick stp_list ?_ | refine g_not stp_list ?_ | refine g_slice stp_list ?_ | refine g_sliceA stp_list ?_ | refine g_sliceNil stp_list ?_) <;> refine put_in ?_) | ((first | refine g_alloc stp_list own_st hS ?_ | refine g_box stp_list own_st hS ?_ | refine g_build0 stp_list own_st hS ?_ | refine g_build stp_list own_st hS ?_ | refine g_make stp_list own_st hS ?_); clear hS; intro b w hS; refine put_in ?_) | ((first | refine g_store1 stp_list own_st hS ?_ | refine g_storeR stp_list own_st hS ?_); clear hS; intro w hS; refine put_in ?_)) | ((fail_if_success (with_reducible refine cons_list ?_)); first | go_step | go_step3 | rw [Exit.noGoto_normal] | rw [Exit.noGoto_ret] | rw [Exit.noGoto_exit]))
  (refine g_callq stp_list own_st hS (words_any tp l.length tc (by omega) _) ?_; clear hS; intro w hS; refine put_in ?_)
  rw [if_pos (show l.length % 8 = 0 by omega), show l.length / 8 = n + 1 by omega]
  have hn1 : ((n + 1 : Nat) : Int) - 1 = (n : Int) := by omega
  repeat' (first | ((with_reducible refine cons_list ?_); first | ((first | refine g_skip stp_list ?_ | refine g_move stp_list ?_ | refine g_assign stp_list ?_ | refine g_load1 stp_list own_st hS ?_ | refine g_loadR stp_list own_st hS ?_ | refine g_indexAddr stp_list ?_ | refine g_indexAddrA stp_list ?_ | refine g_len stp_list ?_ | refine g_cap stp_list ?_ | refine g_extract stp_list ?_ | refine g_add stp_list ?_ | refine g_sub stp_list ?_ | refine g_mul stp_list ?_ | refine g_quo stp_list ?_ | refine g_rem stp_list ?_ | refine g_cmp_t stp_list ?_ | refine g_cmp_f stp_list ?_ | refine g_cmp stp_list (fun hc => ?_) (fun hc => ?_) | refine g_neqNil stp_list ?_ | refine g_neqNil0 stp_list ?_ | refine g_eqlNil stp_list ?_ | refine g_eqlNil0 stp_list ?_ | refine g_fieldAddr stp_list ?_ | refine g_field1 stp_list ?_ | refine g_fieldR stp_list ?_ | refine g_eqlSlNil stp_list ?_ | refine g_neqSlNil stp_list ?_ | refine g_makeInterface stp_list ?_ | refine g_makeFunc stp_list ?_ | refine g_conv stp_list ?_ | refine g_pick stp_list ?_ | refine g_not stp_list ?_ | refine g_slice stp_list ?_ | refine g_sliceA stp_list ?_ | refine g_sliceNil stp_list ?_) <;> refine put_in ?_) | ((first | refine g_alloc stp_list own_st hS ?_ | refine g_box stp_list own_st hS ?_ | refine g_build0 stp_list own_st hS ?_ | refine g_build stp_list own_st hS ?_ | refine g_make stp_list own_st hS ?_); clear hS; intro b w hS; refine put_in ?_) | ((first | refine g_store1 stp_list own_st hS ?_ | refine g_storeR stp_list own_st hS ?_); clear hS; intro w hS; refine put_in ?_)) | ((fail_if_success (with_reducible refine cons_list ?_)); first | go_step | go_step3 | rw [Exit.noGoto_normal] | rw [Exit.noGoto_ret] | rw [Exit.noGoto_exit]))
  have hl0 : l ≠ [] := by rintro rfl; simp at hn
  refine s_call stp_list (by rfl) (by rfl) (by rfl) (by rfl) (by rfl) (by infer_instance) (clone_any _ l hl0 (by omega) _ (ht1.below hS.below)) ?_
  rintro e w2 ⟨go, co, spo, rfl, ⟨ho1, hcm⟩, ho2, ho3, ho4⟩
  refine ⟨_, rfl, ?_⟩
  refine put_in ?_
  replace hS := own_st.new hS ho4 ho2 ho3
  repeat' (first | ((with_reducible refine cons_list ?_); first | ((first | refine g_skip stp_list ?_ | refine g_move stp_list ?_ | refine g_assign stp_list ?_ | refine g_load1 stp_list own_st hS ?_ | refine g_loadR stp_list own_st hS ?_ | refine g_indexAddr stp_list ?_ | refine g_indexAddrA stp_list ?_ | refine g_len stp_list ?_ | refine g_cap stp_list ?_ | refine g_extract stp_list ?_ | refine g_add stp_list ?_ | refine g_sub stp_list ?_ | refine g_mul stp_list ?_ | refine g_quo stp_list ?_ | refine g_rem stp_list ?_ | refine g_cmp_t stp_list ?_ | refine g_cmp_f stp_list ?_ | refine g_cmp stp_list (fun hc => ?_) (fun hc => ?_) | refine g_neqNil stp_list ?_ | refine g_neqNil0 stp_list ?_ | refine g_eqlNil stp_list ?_ | refine g_eqlNil0 stp_list ?_ | refine g_fieldAddr stp_list ?_ | refine g_field1 stp_list ?_ | refine g_fieldR stp_list ?_ | refine g_eqlSlNil stp_list ?_ | refine g_neqSlNil stp_list ?_ | refine g_makeInterface stp_list ?_ | refine g_makeFunc stp_list ?_ | refine g_conv stp_list ?_ | refine g_pick stp_list ?_ | refine g_not stp_list ?_ | refine g_slice stp_list ?_ | refine g_sliceA stp_list ?_ | refine g_sliceNil stp_list ?_) <;> refine put_in ?_) | ((first | refine g_alloc stp_list own_st hS ?_ | refine g_box stp_list own_st hS ?_ | refine g_build0 stp_list own_st hS ?_ | refine g_build stp_list own_st hS ?_ | refine g_make stp_list own_st hS ?_); clear hS; intro b w hS; refine put_in ?_) | ((first | refine g_store1 stp_list own_st hS ?_ | refine g_storeR stp_list own_st hS ?_); clear hS; intro w hS; refine put_in ?_)) | ((fail_if_success (with_reducible refine cons_list ?_)); first | go_step | go_step3 | rw [Exit.noGoto_normal] | rw [Exit.noGoto_ret] | rw [Exit.noGoto_exit]))
  rw [hn1]
  have t8 : (l.take 8).length = 8 := by rw [List.length_take]; omega
  refine s_call stp_list (by rfl) (by rfl) (by rfl) (by rfl) (by rfl) (by infer_instance) (big_any _ (l.take 8) _ (bytesAt_mid (pre := []) (post := (l.drop 8).map bv ++ spo) (own_st.blk 0 hS rfl) (pre_split l spo 8) rfl t8 (by omega)) (by omega)) ?_
  rintro e w' ⟨rfl, rfl⟩
  refine ⟨_, rfl, ?_⟩
  refine put_in ?_
  repeat' (first | ((with_reducible refine cons_list ?_); first | ((first | refine g_skip stp_list ?_ | refine g_move stp_list ?_ | refine g_assign stp_list ?_ | refine g_load1 stp_list own_st hS ?_ | refine g_loadR stp_list own_st hS ?_ | refine g_indexAddr stp_list ?_ | refine g_indexAddrA stp_list ?_ | refine g_len stp_list ?_ | refine g_cap stp_list ?_ | refine g_extract stp_list ?_ | refine g_add stp_list ?_ | refine g_sub stp_list ?_ | refine g_mul stp_list ?_ | refine g_quo stp_list ?_ | refine g_rem stp_list ?_ | refine g_cmp_t stp_list ?_ | refine g_cmp_f stp_list ?_ | refine g_cmp stp_list (fun hc => ?_) (fun hc => ?_) | refine g_neqNil stp_list ?_ | refine g_neqNil0 stp_list ?_ | refine g_eqlNil stp_list ?_ | refine g_eqlNil0 stp_list ?_ | refine g_fieldAddr stp_list ?_ | refine g_field1 stp_list ?_ | refine g_fieldR stp_list ?_ | refine g_eqlSlNil stp_list ?_ | refine g_neqSlNil stp_list ?_ | refine g_makeInterface stp_list ?_ | refine g_makeFunc stp_list ?_ | refine g_conv stp_list ?_ | refine g_pick stp_list ?_ | refine g_not stp_list ?_ | refine g_slice stp_list ?_ | refine g_sliceA stp_list ?_ | refine g_sliceNil stp_list ?_) <;> refine put_in ?_) | ((first | refine g_alloc stp_list own_st hS ?_ | refine g_box stp_list own_st hS ?_ | refine g_build0 stp_list own_st hS ?_ | refine g_build stp_list own_st hS ?_ | refine g_make stp_list own_st hS ?_); clear hS; intro b w hS; refine put_in ?_) | ((first | refine g_store1 stp_list own_st hS ?_ | refine g_storeR stp_list own_st hS ?_); clear hS; intro w hS; refine put_in ?_)) | ((fail_if_success (with_reducible refine cons_list ?_)); first | go_step | go_step3 | rw [Exit.noGoto_normal] | rw [Exit.noGoto_ret] | rw [Exit.noGoto_exit]))
  go_loopw [10, 11] (fun u10 u11 wr => ∃ (s : Nat) (x : List UInt8 × List UInt8), s ≤ 6 * n ∧ u11 = .int .i64 (s : Int) ∧ u10 = .int .u64 ((beN x.1 : Nat) : Int) ∧ InForm n x ∧ uSteps (openV key) n x s = unwrapX key l ∧ St w1 wr [(go, ((l.take 8 ++ x.2).map bv ++ spo).toArray, 5)]) (fun _ u11 _ => (intOf u11).toNat)
  case atStart =>
    refine ⟨6 * n, (l.take 8, l.drop 8), by omega, by push_cast; rfl, rfl, ⟨t8, by show (l.drop 8).length = 8 * n; rw [List.length_drop]; omega⟩, ?_, ?_⟩
    · unfold unwrapX
      rw [show l.length / 8 - 1 = n by omega]
    · rw [List.take_append_drop]
      exact own_st.sub hS (fun y hy => by rw [List.mem_singleton.1 hy]; exact List.mem_cons_self ..) (by simp)
  case round =>
    obtain ⟨s, x, hs, rfl, rfl, ⟨f1, f2⟩, hx, hS⟩ := hrel
    by_cases hlt : 0 < s
    · obtain ⟨s, rfl⟩ : ∃ s', s = s' + 1 := ⟨s - 1, by omega⟩
      have hmod : s % n < n := Nat.mod_lt _ (by omega)
      have hs1 : ((s + 1 : Nat) : Int) - 1 = (s : Int) := by omega
      have hm0 : (((s + 1 : Nat) : Int) - 1) % (n : Int) = ((s % n : Nat) : Int) := by rw [hs1]; exact (Int.natCast_emod _ _).symm
      have hm1 : 0 ≤ (((s + 1 : Nat) : Int) - 1) % (n : Int) := by omega
      have hm2 : (((s + 1 : Nat) : Int) - 1) % (n : Int) < n := by omega
      have hbl : beN x.1 < 18446744073709551616 := by
        have := beN_lt x.1
        rw [f1] at this
        exact this
      have hk64 : s + 1 < 18446744073709551616 := by omega
      repeat' (first | ((with_reducible refine cons_list ?_); first | ((first | refine g_skip stp_list ?_ | refine g_move stp_list ?_ | refine g_assign stp_list ?_ | refine g_load1 stp_list own_st hS ?_ | refine g_loadR stp_list own_st hS ?_ | refine g_indexAddr stp_list ?_ | refine g_indexAddrA stp_list ?_ | refine g_len stp_list ?_ | refine g_cap stp_list ?_ | refine g_extract stp_list ?_ | refine g_add stp_list ?_ | refine g_sub stp_list ?_ | refine g_mul stp_list ?_ | refine g_quo stp_list ?_ | refine g_rem stp_list ?_ | refine g_cmp_t stp_list ?_ | refine g_cmp_f stp_list ?_ | refine g_cmp stp_list (fun hc => ?_) (fun hc => ?_) | refine g_neqNil stp_list ?_ | refine g_neqNil0 stp_list ?_ | refine g_eqlNil stp_list ?_ | refine g_eqlNil0 stp_list ?_ | refine g_fieldAddr stp_list ?_ | refine g_field1 stp_list ?_ | refine g_fieldR stp_list ?_ | refine g_eqlSlNil stp_list ?_ | refine g_neqSlNil stp_list ?_ | refine g_makeInterface stp_list ?_ | refine g_makeFunc stp_list ?_ | refine g_conv stp_list ?_ | refine g_pick stp_list ?_ | refine g_not stp_list ?_ | refine g_slice stp_list ?_ | refine g_sliceA stp_list ?_ | refine g_sliceNil stp_list ?_) <;> refine put_in ?_) | ((first | refine g_alloc stp_list own_st hS ?_ | refine g_box stp_list own_st hS ?_ | refine g_build0 stp_list own_st hS ?_ | refine g_build stp_list own_st hS ?_ | refine g_make stp_list own_st hS ?_); clear hS; intro b w hS; refine put_in ?_) | ((first | refine g_store1 stp_list own_st hS ?_ | refine g_storeR stp_list own_st hS ?_); clear hS; intro w hS; refine put_in ?_) | (refine Stp.go stp_list (by rfl) (by rfl) (r_xor64 (by rfl) (by rfl) (by rfl) (by omega) (by omega) rfl) ?_; refine put_in ?_)) | ((fail_if_success (with_reducible refine cons_list ?_)); first | go_step | go_step3 | rw [Exit.noGoto_normal] | rw [Exit.noGoto_ret] | rw [Exit.noGoto_exit]))
      obtain ⟨z, hz⟩ : ∃ z, z = xorL x.1 (beB (s + 1) 8) := ⟨_, rfl⟩
      have hzl : z.length = 8 := by rw [hz]; exact xorL_len _ _ 8 f1 (beB_len _ _)
      have hxe : beN x.1 ^^^ (s + 1) = beN z := by
        rw [hz, beN_xor 8 _ _ f1 (beB_len _ _), beN_beB, Nat.mod_eq_of_lt (by omega)]
      have hc1 : ovw (bvs (zs 16)) 0 (beB (beN x.1 ^^^ (s + 1)) 8) = bvs (z ++ zs 8) := by
        rw [hxe, ← hzl, beB_beN, ovw_bvs, List.take_zero, List.nil_append, Nat.zero_add, hzl]
        congr 2
        unfold zs
        rw [List.drop_replicate]
      refine s_callRow stp_list own_st hS (by rfl) (by rfl) (by rfl) (by rfl) (by rfl) (by infer_instance) (putBig_any _ 0 8 16 (bvs (zs 16)) 149 (beN x.1 ^^^ (s + 1)) _ (own_st.blk 0 hS rfl) (by rw [csz_zs]; omega) (by omega) (by decide)) (by exact at_ 0 rfl) hc1 (by (try conv => lhs; simp only [List.set_cons_zero, List.set_cons_succ, List.eraseIdx_cons_zero, List.eraseIdx_cons_succ]); first | done | rfl) ?_
      clear hS
      intro w hS
      refine put_in ?_
      repeat' (first | ((with_reducible refine cons_list ?_); first | ((first | refine g_skip stp_list ?_ | refine g_move stp_list ?_ | refine g_assign stp_list ?_ | refine g_load1 stp_list own_st hS ?_ | refine g_loadR stp_list own_st hS ?_ | refine g_indexAddr stp_list ?_ | refine g_indexAddrA stp_list ?_ | refine g_len stp_list ?_ | refine g_cap stp_list ?_ | refine g_extract stp_list ?_ | refine g_add stp_list ?_ | refine g_sub stp_list ?_ | refine g_mul stp_list ?_ | refine g_quo stp_list ?_ | refine g_rem stp_list ?_ | refine g_cmp_t stp_list ?_ | refine g_cmp_f stp_list ?_ | refine g_cmp stp_list (fun hc => ?_) (fun hc => ?_) | refine g_neqNil stp_list ?_ | refine g_neqNil0 stp_list ?_ | refine g_eqlNil stp_list ?_ | refine g_eqlNil0 stp_list ?_ | refine g_fieldAddr stp_list ?_ | refine g_field1 stp_list ?_ | refine g_fieldR stp_list ?_ | refine g_eqlSlNil stp_list ?_ | refine g_neqSlNil stp_list ?_ | refine g_makeInterface stp_list ?_ | refine g_makeFunc stp_list ?_ | refine g_conv stp_list ?_ | refine g_pick stp_list ?_ | refine g_not stp_list ?_ | refine g_slice stp_list ?_ | refine g_sliceA stp_list ?_ | refine g_sliceNil stp_list ?_) <;> refine put_in ?_) | ((first | refine g_alloc stp_list own_st hS ?_ | refine g_box stp_list own_st hS ?_ | refine g_build0 stp_list own_st hS ?_ | refine g_build stp_list own_st hS ?_ | refine g_make stp_list own_st hS ?_); clear hS; intro b w hS; refine put_in ?_) | ((first | refine g_store1 stp_list own_st hS ?_ | refine g_storeR stp_list own_st hS ?_); clear hS; intro w hS; refine put_in ?_)) | ((fail_if_success (with_reducible refine cons_list ?_)); first | go_step | go_step3 | rw [Exit.noGoto_normal] | rw [Exit.noGoto_ret] | rw [Exit.noGoto_exit]))
      have e0 : (8 * ((((s + 1 : Nat) : Int) - 1) % (n : Int) + 1)).toNat = 8 * (s % n + 1) := by rw [hm0]; omega
      refine region_mono_lit 5 (by kernel_rfl) (by kernel_rfl) ?_
      dsimp only [List.take, List.drop]
      iterate 5 (first | (refine wpM_skip (fun _ => rfl) ?_; simp only [Act.put, List.setIfInBounds_toArray, List.set_cons_zero, List.set_cons_succ]) | (refine wpM_alloc rfl (fun _ => rfl) _ (fun w => r_alloc (a := ⟨#[], []⟩) rfl (by infer_instance)) ?_; simp only [Act.put, List.setIfInBounds_toArray, List.set_cons_zero, List.set_cons_succ]) | (refine wpM_want (fun _ => rfl) (fun K hK => ?_); apply Exists.intro; refine ⟨fun pB w' hw' hF => ?_, hK _ _ ?_⟩; (focus (have hZ := (own_st).call hS hw'; first | exact q_move | exact q_assign | exact q_load1 own_st hZ | exact q_loadR own_st hZ | exact q_indexAddr | exact q_indexAddrA | exact q_len | exact q_cap | exact q_extract | exact q_add | exact q_sub | exact q_mul | exact q_quo | exact q_rem | exact q_cmp_t | exact q_cmp_f | exact q_neqNil | exact q_neqNil0 | exact q_eqlNil | exact q_eqlNil0 | exact q_fieldAddr | exact q_field1 | exact q_fieldR | exact q_eqlSlNil | exact q_neqSlNil | exact q_makeInterface | exact q_makeFunc | exact q_conv | exact q_pick | exact q_not | exact q_slice | exact q_sliceA | exact q_sliceNil)); clear hK K; simp only [Act.put, List.setIfInBounds_toArray, List.set_cons_zero, List.set_cons_succ]))
      refine wpM_nil ?_
      intro pB w hcq hfq hnq
      replace hS := (own_st).news hS hcq _ (by decide) hfq hnq
      first | simp only [List.map_nil, List.nil_append] at hS | simp only [List.map_cons, List.map_nil, List.cons_append, List.nil_append] at hS
      clear hcq hfq hnq
      try dsimp only
      have g1 : (l.take 8 ++ x.2).length = 8 * n + 8 := by rw [List.length_append, t8, f2]; omega
      have hsrc : BytesAt w _ ((l.take 8 ++ x.2).drop (8 * (s % n + 1))) := bytesAt_mid (n := l.length - (8 * ((((s + 1 : Nat) : Int) - 1) % (n : Int) + 1)).toNat) (c := co - (8 * ((((s + 1 : Nat) : Int) - 1) % (n : Int) + 1)).toNat) (off := (8 * ((((s + 1 : Nat) : Int) - 1) % (n : Int) + 1)).toNat) (own_st.blk 1 hS rfl) (pre_split _ _ _) (by rw [List.length_map, List.length_take, g1]; omega) (by rw [List.length_drop, g1]; omega) (by omega)
      have g2 : ((l.take 8 ++ x.2).drop (8 * (s % n + 1))).take 8 = wordAt x.2 (s % n) := word_p8 t8 _ _
      have g3 := wordAt_len (l := x.2) (i := s % n) (by rw [f2]; exact word_fits (by omega))
      refine s_copy (i := 0) stp_list own_st hS (by rfl) (by rfl) (by rfl) (by rfl) (by infer_instance) (by rfl) hsrc (by rw [g2, g3, csz_bvs, List.length_append, hzl, zs_len]; omega) (cs2 := bvs (z ++ wordAt x.2 (s % n))) (by
        rw [g2, ovw_bvs, g3, List.take_append_of_le_length (by omega), List.take_of_length_le (by omega), List.drop_of_length_le (by rw [List.length_append, hzl, zs_len]; omega), List.append_nil]) (by (try conv => lhs; simp only [List.set_cons_zero, List.set_cons_succ, List.eraseIdx_cons_zero, List.eraseIdx_cons_succ]); first | done | rfl) rfl ?_
      clear hS hsrc
      intro w hS
      refine put_in ?_
      have g4 : (z ++ wordAt x.2 (s % n)).length = 16 := by rw [List.length_append, hzl, g3]
      repeat' (first | ((with_reducible refine cons_list ?_); first | ((first | refine g_skip stp_list ?_ | refine g_move stp_list ?_ | refine g_assign stp_list ?_ | refine g_load1 stp_list own_st hS ?_ | refine g_loadR stp_list own_st hS ?_ | refine g_indexAddr stp_list ?_ | refine g_indexAddrA stp_list ?_ | refine g_len stp_list ?_ | refine g_cap stp_list ?_ | refine g_extract stp_list ?_ | refine g_add stp_list ?_ | refine g_sub stp_list ?_ | refine g_mul stp_list ?_ | refine g_quo stp_list ?_ | refine g_rem stp_list ?_ | refine g_cmp_t stp_list ?_ | refine g_cmp_f stp_list ?_ | refine g_cmp stp_list (fun hc => ?_) (fun hc => ?_) | refine g_neqNil stp_list ?_ | refine g_neqNil0 stp_list ?_ | refine g_eqlNil stp_list ?_ | refine g_eqlNil0 stp_list ?_ | refine g_fieldAddr stp_list ?_ | refine g_field1 stp_list ?_ | refine g_fieldR stp_list ?_ | refine g_eqlSlNil stp_list ?_ | refine g_neqSlNil stp_list ?_ | refine g_makeInterface stp_list ?_ | refine g_makeFunc stp_list ?_ | refine g_conv stp_list ?_ | refine g_pick stp_list ?_ | refine g_not stp_list ?_ | refine g_slice stp_list ?_ | refine g_sliceA stp_list ?_ | refine g_sliceNil stp_list ?_) <;> refine put_in ?_) | ((first | refine g_alloc stp_list own_st hS ?_ | refine g_box stp_list own_st hS ?_ | refine g_build0 stp_list own_st hS ?_ | refine g_build stp_list own_st hS ?_ | refine g_make stp_list own_st hS ?_); clear hS; intro b w hS; refine put_in ?_) | ((first | refine g_store1 stp_list own_st hS ?_ | refine g_storeR stp_list own_st hS ?_); clear hS; intro w hS; refine put_in ?_)) | ((fail_if_success (with_reducible refine cons_list ?_)); first | go_step | go_step3 | rw [Exit.noGoto_normal] | rw [Exit.noGoto_ret] | rw [Exit.noGoto_exit]))
      (refine g_callq stp_list own_st hS (showTurn_any key _ h g4 _ _ (hR.below hS.below)) ?_; clear hS; intro w hS; refine put_in ?_)
      obtain ⟨y, hy⟩ : ∃ y, y = openV key (z ++ wordAt x.2 (s % n)) := ⟨_, rfl⟩
      have g5 : y.length = 16 := by rw [hy]; exact open_len' h _ g4
      rw [← hy]
      repeat' (first | ((with_reducible refine cons_list ?_); first | ((first | refine g_skip stp_list ?_ | refine g_move stp_list ?_ | refine g_assign stp_list ?_ | refine g_load1 stp_list own_st hS ?_ | refine g_loadR stp_list own_st hS ?_ | refine g_indexAddr stp_list ?_ | refine g_indexAddrA stp_list ?_ | refine g_len stp_list ?_ | refine g_cap stp_list ?_ | refine g_extract stp_list ?_ | refine g_add stp_list ?_ | refine g_sub stp_list ?_ | refine g_mul stp_list ?_ | refine g_quo stp_list ?_ | refine g_rem stp_list ?_ | refine g_cmp_t stp_list ?_ | refine g_cmp_f stp_list ?_ | refine g_cmp stp_list (fun hc => ?_) (fun hc => ?_) | refine g_neqNil stp_list ?_ | refine g_neqNil0 stp_list ?_ | refine g_eqlNil stp_list ?_ | refine g_eqlNil0 stp_list ?_ | refine g_fieldAddr stp_list ?_ | refine g_field1 stp_list ?_ | refine g_fieldR stp_list ?_ | refine g_eqlSlNil stp_list ?_ | refine g_neqSlNil stp_list ?_ | refine g_makeInterface stp_list ?_ | refine g_makeFunc stp_list ?_ | refine g_conv stp_list ?_ | refine g_pick stp_list ?_ | refine g_not stp_list ?_ | refine g_slice stp_list ?_ | refine g_sliceA stp_list ?_ | refine g_sliceNil stp_list ?_) <;> refine put_in ?_) | ((first | refine g_alloc stp_list own_st hS ?_ | refine g_box stp_list own_st hS ?_ | refine g_build0 stp_list own_st hS ?_ | refine g_build stp_list own_st hS ?_ | refine g_make stp_list own_st hS ?_); clear hS; intro b w hS; refine put_in ?_) | ((first | refine g_store1 stp_list own_st hS ?_ | refine g_storeR stp_list own_st hS ?_); clear hS; intro w hS; refine put_in ?_)) | ((fail_if_success (with_reducible refine cons_list ?_)); first | go_step | go_step3 | rw [Exit.noGoto_normal] | rw [Exit.noGoto_ret] | rw [Exit.noGoto_exit]))
      refine s_call stp_list (by rfl) (by rfl) (by rfl) (by rfl) (by rfl) (by infer_instance) (big_any _ (y.take 8) _ (bytesAt_mid (pre := []) (post := (y.drop 8).map bv) (own_st.blk 0 hS rfl) (by show y.map bv = _; rw [List.nil_append, ← List.map_append, List.take_append_drop]) rfl (by rw [List.length_take, g5]; rfl) (by omega)) (by rw [List.length_take, g5]; omega)) ?_
      rintro e w' ⟨rfl, rfl⟩
      refine ⟨_, rfl, ?_⟩
      refine put_in ?_
      repeat' (first | ((with_reducible refine cons_list ?_); first | ((first | refine g_skip stp_list ?_ | refine g_move stp_list ?_ | refine g_assign stp_list ?_ | refine g_load1 stp_list own_st hS ?_ | refine g_loadR stp_list own_st hS ?_ | refine g_indexAddr stp_list ?_ | refine g_indexAddrA stp_list ?_ | refine g_len stp_list ?_ | refine g_cap stp_list ?_ | refine g_extract stp_list ?_ | refine g_add stp_list ?_ | refine g_sub stp_list ?_ | refine g_mul stp_list ?_ | refine g_quo stp_list ?_ | refine g_rem stp_list ?_ | refine g_cmp_t stp_list ?_ | refine g_cmp_f stp_list ?_ | refine g_cmp stp_list (fun hc => ?_) (fun hc => ?_) | refine g_neqNil stp_list ?_ | refine g_neqNil0 stp_list ?_ | refine g_eqlNil stp_list ?_ | refine g_eqlNil0 stp_list ?_ | refine g_fieldAddr stp_list ?_ | refine g_field1 stp_list ?_ | refine g_fieldR stp_list ?_ | refine g_eqlSlNil stp_list ?_ | refine g_neqSlNil stp_list ?_ | refine g_makeInterface stp_list ?_ | refine g_makeFunc stp_list ?_ | refine g_conv stp_list ?_ | refine g_pick stp_list ?_ | refine g_not stp_list ?_ | refine g_slice stp_list ?_ | refine g_sliceA stp_list ?_ | refine g_sliceNil stp_list ?_) <;> refine put_in ?_) | ((first | refine g_alloc stp_list own_st hS ?_ | refine g_box stp_list own_st hS ?_ | refine g_build0 stp_list own_st hS ?_ | refine g_build stp_list own_st hS ?_ | refine g_make stp_list own_st hS ?_); clear hS; intro b w hS; refine put_in ?_) | ((first | refine g_store1 stp_list own_st hS ?_ | refine g_storeR stp_list own_st hS ?_); clear hS; intro w hS; refine put_in ?_)) | ((fail_if_success (with_reducible refine cons_list ?_)); first | go_step | go_step3 | rw [Exit.noGoto_normal] | rw [Exit.noGoto_ret] | rw [Exit.noGoto_exit]))
      refine region_mono_lit 5 (by kernel_rfl) (by kernel_rfl) ?_
      dsimp only [List.take, List.drop]
      iterate 5 (first | (refine wpM_skip (fun _ => rfl) ?_; simp only [Act.put, List.setIfInBounds_toArray, List.set_cons_zero, List.set_cons_succ]) | (refine wpM_alloc rfl (fun _ => rfl) _ (fun w => r_alloc (a := ⟨#[], []⟩) rfl (by infer_instance)) ?_; simp only [Act.put, List.setIfInBounds_toArray, List.set_cons_zero, List.set_cons_succ]) | (refine wpM_want (fun _ => rfl) (fun K hK => ?_); apply Exists.intro; refine ⟨fun pB w' hw' hF => ?_, hK _ _ ?_⟩; (focus (have hZ := (own_st).call hS hw'; first | exact q_move | exact q_assign | exact q_load1 own_st hZ | exact q_loadR own_st hZ | exact q_indexAddr | exact q_indexAddrA | exact q_len | exact q_cap | exact q_extract | exact q_add | exact q_sub | exact q_mul | exact q_quo | exact q_rem | exact q_cmp_t | exact q_cmp_f | exact q_neqNil | exact q_neqNil0 | exact q_eqlNil | exact q_eqlNil0 | exact q_fieldAddr | exact q_field1 | exact q_fieldR | exact q_eqlSlNil | exact q_neqSlNil | exact q_makeInterface | exact q_makeFunc | exact q_conv | exact q_pick | exact q_not | exact q_slice | exact q_sliceA | exact q_sliceNil)); clear hK K; simp only [Act.put, List.setIfInBounds_toArray, List.set_cons_zero, List.set_cons_succ]))
      refine wpM_nil ?_
      intro pB w hcq hfq hnq
      replace hS := (own_st).news hS hcq _ (by decide) hfq hnq
      first | simp only [List.map_nil, List.nil_append] at hS | simp only [List.map_cons, List.map_nil, List.cons_append, List.nil_append] at hS
      clear hcq hfq hnq
      try dsimp only
      have hsrc : BytesAt w _ (y.drop 8) := bytesAt_mid (pre := (y.take 8).map bv) (post := []) (n := 8) (c := 8) (off := 8) (own_st.blk 0 hS rfl) (by show y.map bv = _; rw [List.append_nil, ← List.map_append, List.take_append_drop]) (by rw [List.length_map, List.length_take, g5]; rfl) (by rw [List.length_drop, g5]) (by omega)
      have g6 : (y.drop 8).length = 8 := by rw [List.length_drop, g5]
      have g7 : (y.drop 8).take (l.length - (8 * ((((s + 1 : Nat) : Int) - 1) % (n : Int) + 1)).toNat) = y.drop 8 := List.take_of_length_le (by omega)
      refine s_copy (i := 1) stp_list own_st hS (by rfl) (by rfl) (by rfl) (by rfl) (by infer_instance) (by rfl) hsrc (by rw [g7, g6, e0, csz_list, List.length_append, List.length_map, g1]; omega) (cs2 := ((l.take 8 ++ putW x.2 (y.drop 8) (s % n)).map bv ++ spo).toArray) (by
        rw [g7, e0]; exact ovw_p8 t8 g6 (by rw [f2]; exact word_fits (by omega))) (by (try conv => lhs; simp only [List.set_cons_zero, List.set_cons_succ, List.eraseIdx_cons_zero, List.eraseIdx_cons_succ]); first | done | rfl) rfl ?_
      clear hS hsrc
      intro w hS
      refine put_in ?_
      repeat' (first | ((with_reducible refine cons_list ?_); first | ((first | refine g_skip stp_list ?_ | refine g_move stp_list ?_ | refine g_assign stp_list ?_ | refine g_load1 stp_list own_st hS ?_ | refine g_loadR stp_list own_st hS ?_ | refine g_indexAddr stp_list ?_ | refine g_indexAddrA stp_list ?_ | refine g_len stp_list ?_ | refine g_cap stp_list ?_ | refine g_extract stp_list ?_ | refine g_add stp_list ?_ | refine g_sub stp_list ?_ | refine g_mul stp_list ?_ | refine g_quo stp_list ?_ | refine g_rem stp_list ?_ | refine g_cmp_t stp_list ?_ | refine g_cmp_f stp_list ?_ | refine g_cmp stp_list (fun hc => ?_) (fun hc => ?_) | refine g_neqNil stp_list ?_ | refine g_neqNil0 stp_list ?_ | refine g_eqlNil stp_list ?_ | refine g_eqlNil0 stp_list ?_ | refine g_fieldAddr stp_list ?_ | refine g_field1 stp_list ?_ | refine g_fieldR stp_list ?_ | refine g_eqlSlNil stp_list ?_ | refine g_neqSlNil stp_list ?_ | refine g_makeInterface stp_list ?_ | refine g_makeFunc stp_list ?_ | refine g_conv stp_list ?_ | refine g_pick stp_list ?_ | refine g_not stp_list ?_ | refine g_slice stp_list ?_ | refine g_sliceA stp_list ?_ | refine g_sliceNil stp_list ?_) <;> refine put_in ?_) | ((first | refine g_alloc stp_list own_st hS ?_ | refine g_box stp_list own_st hS ?_ | refine g_build0 stp_list own_st hS ?_ | refine g_build stp_list own_st hS ?_ | refine g_make stp_list own_st hS ?_); clear hS; intro b w hS; refine put_in ?_) | ((first | refine g_store1 stp_list own_st hS ?_ | refine g_storeR stp_list own_st hS ?_); clear hS; intro w hS; refine put_in ?_)) | ((fail_if_success (with_reducible refine cons_list ?_)); first | go_step | go_step3 | rw [Exit.noGoto_normal] | rw [Exit.noGoto_ret] | rw [Exit.noGoto_exit]))
      have hstep : uStep (openV key) n x s = (y.take 8, putW x.2 (y.drop 8) (s % n)) := uStep_of (a := x.1) (l := x.2) (by rw [← hz]; exact hy.symm)
      go_roundw
      case rel =>
        refine ⟨s, (y.take 8, putW x.2 (y.drop 8) (s % n)), by omega, by rw [hs1], rfl, ⟨by rw [List.length_take, g5]; rfl, by rw [putW_len (by rw [f2]; exact word_fits (by omega)) g6, f2]⟩, ?_, own_st.drop hS⟩
        rw [← hx, uSteps_succ, hstep]
      case measure => simp [intOf]
    · obtain rfl : s = 0 := by omega
      rw [uSteps_zero] at hx
      have hif := a6_iff f1
      repeat' (first | ((with_reducible refine cons_list ?_); first | ((first | refine g_skip stp_list ?_ | refine g_move stp_list ?_ | refine g_assign stp_list ?_ | refine g_load1 stp_list own_st hS ?_ | refine g_loadR stp_list own_st hS ?_ | refine g_indexAddr stp_list ?_ | refine g_indexAddrA stp_list ?_ | refine g_len stp_list ?_ | refine g_cap stp_list ?_ | refine g_extract stp_list ?_ | refine g_add stp_list ?_ | refine g_sub stp_list ?_ | refine g_mul stp_list ?_ | refine g_quo stp_list ?_ | refine g_rem stp_list ?_ | refine g_cmp_t stp_list ?_ | refine g_cmp_f stp_list ?_ | refine g_cmp stp_list (fun hc => ?_) (fun hc => ?_) | refine g_neqNil stp_list ?_ | refine g_neqNil0 stp_list ?_ | refine g_eqlNil stp_list ?_ | refine g_eqlNil0 stp_list ?_ | refine g_fieldAddr stp_list ?_ | refine g_field1 stp_list ?_ | refine g_fieldR stp_list ?_ | refine g_eqlSlNil stp_list ?_ | refine g_neqSlNil stp_list ?_ | refine g_makeInterface stp_list ?_ | refine g_makeFunc stp_list ?_ | refine g_conv stp_list ?_ | refine g_pick stp_list ?_ | refine g_not stp_list ?_ | refine g_slice stp_list ?_ | refine g_sliceA stp_list ?_ | refine g_sliceNil stp_list ?_) <;> refine put_in ?_) | ((first | refine g_alloc stp_list own_st hS ?_ | refine g_box stp_list own_st hS ?_ | refine g_build0 stp_list own_st hS ?_ | refine g_build stp_list own_st hS ?_ | refine g_make stp_list own_st hS ?_); clear hS; intro b w hS; refine put_in ?_) | ((first | refine g_store1 stp_list own_st hS ?_ | refine g_storeR stp_list own_st hS ?_); clear hS; intro w hS; refine put_in ?_)) | ((fail_if_success (with_reducible refine cons_list ?_)); first | go_step | go_step3 | rw [Exit.noGoto_normal] | rw [Exit.noGoto_ret] | rw [Exit.noGoto_exit]))
      · go_ret2
        unfold UnwrapOf
        rw [← hx, if_neg (fun e => hc (hif.1 e))]
        exact ⟨rfl, hB.trans (hS.below.mono hB.size)⟩
      · have hne : x.2 ≠ [] := by intro e; rw [e] at f2; simp at f2; omega
        have g1 : (l.take 8 ++ x.2).length = 8 * n + 8 := by rw [List.length_append, t8, f2]; omega
        have e8 : l.length - 8 = 8 * n := by omega
        refine s_call stp_list (by rfl) (by rfl) (by rfl) (by rfl) (by rfl) (by infer_instance) (clone_any _ x.2 hne (by omega) _ (bytesAt_mid (pre := (l.take 8).map bv) (post := spo) (n := l.length - 8) (c := co - 8) (off := 8) (own_st.blk 0 hS rfl) (by show (l.take 8 ++ x.2).map bv ++ spo = _; rw [List.map_append, List.append_assoc]) (by rw [List.length_map, t8]) (by rw [f2, e8]) (by omega))) ?_
        rintro e w3 ⟨g3, c3, sp3, rfl, ⟨q1, q2⟩, q3, q4, q5⟩
        refine ⟨_, rfl, ?_⟩
        refine put_in ?_
        replace hS := own_st.new hS q5 q3 q4
        repeat' (first | ((with_reducible refine cons_list ?_); first | ((first | refine g_skip stp_list ?_ | refine g_move stp_list ?_ | refine g_assign stp_list ?_ | refine g_load1 stp_list own_st hS ?_ | refine g_loadR stp_list own_st hS ?_ | refine g_indexAddr stp_list ?_ | refine g_indexAddrA stp_list ?_ | refine g_len stp_list ?_ | refine g_cap stp_list ?_ | refine g_extract stp_list ?_ | refine g_add stp_list ?_ | refine g_sub stp_list ?_ | refine g_mul stp_list ?_ | refine g_quo stp_list ?_ | refine g_rem stp_list ?_ | refine g_cmp_t stp_list ?_ | refine g_cmp_f stp_list ?_ | refine g_cmp stp_list (fun hc => ?_) (fun hc => ?_) | refine g_neqNil stp_list ?_ | refine g_neqNil0 stp_list ?_ | refine g_eqlNil stp_list ?_ | refine g_eqlNil0 stp_list ?_ | refine g_fieldAddr stp_list ?_ | refine g_field1 stp_list ?_ | refine g_fieldR stp_list ?_ | refine g_eqlSlNil stp_list ?_ | refine g_neqSlNil stp_list ?_ | refine g_makeInterface stp_list ?_ | refine g_makeFunc stp_list ?_ | refine g_conv stp_list ?_ | refine g_pick stp_list ?_ | refine g_not stp_list ?_ | refine g_slice stp_list ?_ | refine g_sliceA stp_list ?_ | refine g_sliceNil stp_list ?_) <;> refine put_in ?_) | ((first | refine g_alloc stp_list own_st hS ?_ | refine g_box stp_list own_st hS ?_ | refine g_build0 stp_list own_st hS ?_ | refine g_build stp_list own_st hS ?_ | refine g_make stp_list own_st hS ?_); clear hS; intro b w hS; refine put_in ?_) | ((first | refine g_store1 stp_list own_st hS ?_ | refine g_storeR stp_list own_st hS ?_); clear hS; intro w hS; refine put_in ?_)) | ((fail_if_success (with_reducible refine cons_list ?_)); first | go_step | go_step3 | rw [Exit.noGoto_normal] | rw [Exit.noGoto_ret] | rw [Exit.noGoto_exit]))
        go_ret2
        unfold UnwrapOf
        rw [← hx, if_pos (hif.2 (by omega))]
        exact ⟨g3, c3, sp3, by rw [← f2]; rfl, by omega, Nat.le_trans hB.size (hS.2.1 _ (List.mem_cons_self ..)).1, hS.blk 0 rfl, hB.trans (hS.below.mono hB.size)⟩
end Go.Proofs.Ytkfggilildiflab

namespace Go.Proofs.Ytkfggilildiflab
open Go.ChangeShapes Go.WideShapes Go.ChangeAt Go.RowKit
/-- The block that is filled byte by byte: x bytes of each half. -/
def fillK (a wd : List UInt8) (x : Nat) : List UInt8 := (List.range 16).map fun i => if i < 8 then (if i < x then a.getD i 0 else 0) else (if i - 8 < x then wd.getD (i - 8) 0 else 0)
theorem fillK_len (a wd : List UInt8) (x : Nat) : (fillK a wd x).length = 16 := by simp [fillK]
theorem fillK_zero (a wd : List UInt8) : fillK a wd 0 = zs 16 := by
  apply List.ext_getElem
  · rw [fillK_len, zs_len]
  · intro i h1 h2
    have e : zs 16 = List.replicate 16 0 := by unfold zs; rfl
    rw [List.getElem_of_eq e, List.getElem_replicate]
    simp [fillK]
theorem fillK_succ (a wd : List UInt8) {x : Nat} (hx : x < 8) : ((fillK a wd x).set x (a.getD x 0)).set (8 + x) (wd.getD x 0) = fillK a wd (x + 1) := by
  apply List.ext_getElem
  · simp [fillK_len]
  · intro i h1 h2
    have hi : i < 16 := by rw [fillK_len] at h2; exact h2
    rw [List.getElem_set, List.getElem_set]
    simp only [fillK, List.getElem_map, List.getElem_range]
    by_cases e1 : 8 + x = i
    · subst e1
      rw [if_pos rfl, if_neg (by omega), if_pos (by omega)]
      congr 1; omega
    · rw [if_neg e1]
      by_cases e2 : x = i
      · subst e2
        rw [if_pos rfl, if_pos (by omega), if_pos (by omega)]
      · rw [if_neg e2]
        by_cases e3 : i < 8
        · rw [if_pos e3, if_pos e3]
          by_cases e4 : i < x
          · rw [if_pos e4, if_pos (by omega)]
          · rw [if_neg e4, if_neg (by omega)]
        · rw [if_neg e3, if_neg e3]
          by_cases e4 : i - 8 < x
          · rw [if_pos e4, if_pos (by omega)]
          · rw [if_neg e4, if_neg (by omega)]
theorem getD_get {l : List UInt8} {i : Nat} (h : i < l.length) : l.getD i 0 = l[i] := by
  rw [List.getD_eq_getElem?_getD, List.getElem?_eq_getElem h]; rfl
theorem fillK_done {a wd : List UInt8} (ha : a.length = 8) (hw : wd.length = 8) : fillK a wd 8 = a ++ wd := by
  apply List.ext_getElem
  · rw [fillK_len, List.length_append, ha, hw]
  · intro i h1 h2
    have hi : i < 16 := by rw [fillK_len] at h1; exact h1
    simp only [fillK, List.getElem_map, List.getElem_range]
    by_cases e : i < 8
    · rw [if_pos e, if_pos e, List.getElem_append_left (by omega), getD_get (by omega)]
    · rw [if_neg e, if_pos (by omega), List.getElem_append_right (by omega), getD_get (by omega)]
      congr 1; omega
/-- The first half that is turned from its end: x bytes are left. -/
def turnA (a y : List UInt8) (s x : Nat) : List UInt8 := (List.range 8).map fun i => if i < x then a.getD i 0 else y.getD i 0 ^^^ UInt8.ofNat (s / 256 ^ (7 - i))
theorem turnA_len (a y : List UInt8) (s x : Nat) : (turnA a y s x).length = 8 := by simp [turnA]
theorem turnA_full {a y : List UInt8} {s : Nat} (ha : a.length = 8) : turnA a y s 8 = a := by
  apply List.ext_getElem
  · rw [turnA_len, ha]
  · intro i h1 h2
    simp only [turnA, List.getElem_map, List.getElem_range]
    rw [if_pos (by omega), getD_get h2]
theorem turnA_step (a y : List UInt8) (s : Nat) {x : Nat} (_hx : x < 8) : (turnA a y s (x + 1)).set x (y.getD x 0 ^^^ UInt8.ofNat (s / 256 ^ (7 - x))) = turnA a y s x := by
  apply List.ext_getElem
  · simp [turnA_len]
  · intro i h1 h2
    rw [List.getElem_set]
    simp only [turnA, List.getElem_map, List.getElem_range]
    by_cases e : x = i
    · subst e
      rw [if_pos rfl, if_neg (by omega)]
    · rw [if_neg e]
      by_cases e2 : i < x
      · rw [if_pos (by omega), if_pos e2]
      · rw [if_neg (by omega), if_neg e2]
theorem leB_getD (n : Nat) : ∀ (k i : Nat), i < k → (leB n k).getD i 0 = UInt8.ofNat (n / 256 ^ i)
  | k + 1, i, h => by
    rw [leB_succ, List.getD_eq_getElem?_getD]
    by_cases e : i < k
    · rw [List.getElem?_append_left (by rw [leB_len]; exact e), ← List.getD_eq_getElem?_getD, leB_getD n k i e]
    · obtain rfl : i = k := by omega
      rw [List.getElem?_append_right (by rw [leB_len]; omega), leB_len, Nat.sub_self]
      rfl
theorem beB_get (n : Nat) {i : Nat} (h : i < 8) (h2 : i < (beB n 8).length) : (beB n 8)[i] = UInt8.ofNat (n / 256 ^ (7 - i)) := by
  have h3 : 7 - i < 8 := by omega
  have := leB_getD n 8 (7 - i) h3
  rw [getD_get (by rw [leB_len]; exact h3)] at this
  rw [← this]
  have e : beB n 8 = (leB n 8).reverse := by unfold beB; rfl
  rw [List.getElem_of_eq e, List.getElem_reverse]
  have e2 : (leB n 8).length - 1 - i = 7 - i := by rw [leB_len]
  simp only [e2]
theorem turnA_done {a y : List UInt8} {s : Nat} (hy : y.length = 16) : turnA a y s 0 = xorL (y.take 8) (beB s 8) := by
  apply List.ext_getElem
  · rw [turnA_len, xorL_len _ _ 8 (by rw [List.length_take, hy]; rfl) (beB_len _ _)]
  · intro i h1 h2
    have hi : i < 8 := by rw [turnA_len] at h1; exact h1
    have e : xorL (y.take 8) (beB s 8) = List.zipWith (· ^^^ ·) (y.take 8) (beB s 8) := by unfold xorL; rfl
    rw [List.getElem_of_eq e, List.getElem_zipWith, List.getElem_take, beB_get s hi]
    simp only [turnA, List.getElem_map, List.getElem_range]
    rw [if_neg (by omega), getD_get (by omega)]
/-- The word that is written from its end: x bytes are left. -/
def turnR (r y : List UInt8) (j x : Nat) : List UInt8 := (List.range r.length).map fun i => if 8 * j + x ≤ i ∧ i < 8 * j + 8 then y.getD (8 + (i - 8 * j)) 0 else r.getD i 0
theorem turnR_len (r y : List UInt8) (j x : Nat) : (turnR r y j x).length = r.length := by simp [turnR]
theorem turnR_full (r y : List UInt8) (j : Nat) : turnR r y j 8 = r := by
  apply List.ext_getElem
  · rw [turnR_len]
  · intro i h1 h2
    simp only [turnR, List.getElem_map, List.getElem_range]
    rw [if_neg (by omega), getD_get h2]
theorem turnR_step (r y : List UInt8) (j : Nat) {x : Nat} (hx : x < 8) : (turnR r y j (x + 1)).set (8 * j + x) (y.getD (8 + x) 0) = turnR r y j x := by
  apply List.ext_getElem
  · simp [turnR_len]
  · intro i h1 h2
    rw [List.getElem_set]
    simp only [turnR, List.getElem_map, List.getElem_range]
    by_cases e : 8 * j + x = i
    · subst e
      rw [if_pos rfl, if_pos (by omega)]
      congr 1; omega
    · rw [if_neg e]
      by_cases e2 : 8 * j + (x + 1) ≤ i ∧ i < 8 * j + 8
      · rw [if_pos e2, if_pos (by omega)]
      · rw [if_neg e2, if_neg (by omega)]
theorem turnR_done {r y : List UInt8} {j : Nat} (hj : 8 * j + 8 ≤ r.length) (hy : y.length = 16) : turnR r y j 0 = putW r (y.drop 8) j := by
  apply List.ext_getElem
  · rw [turnR_len, putW_len hj (by rw [List.length_drop, hy])]
  · intro i h1 h2
    have hi : i < r.length := by rw [turnR_len] at h1; exact h1
    have ht : (r.take (8 * j)).length = 8 * j := by rw [List.length_take]; omega
    have hd : (y.drop 8).length = 8 := by rw [List.length_drop, hy]
    simp only [turnR, List.getElem_map, List.getElem_range, Nat.add_zero]
    have e : putW r (y.drop 8) j = r.take (8 * j) ++ (y.drop 8 ++ r.drop (8 * j + 8)) := by unfold putW; rfl
    rw [List.getElem_of_eq e]
    by_cases e1 : i < 8 * j
    · rw [if_neg (by omega), List.getElem_append_left (by omega), List.getElem_take, getD_get hi]
    · rw [List.getElem_append_right (by omega)]
      by_cases e2 : i < 8 * j + 8
      · rw [if_pos (by omega), List.getElem_append_left (by omega), List.getElem_drop, getD_get (by omega)]
        congr 1; omega
      · rw [if_neg (by omega), List.getElem_append_right (by omega), List.getElem_drop, getD_get hi]
        congr 1; omega
theorem wordAt_getD {r : List UInt8} {j x : Nat} (hx : x < 8) : (wordAt r j).getD x 0 = r.getD (8 * j + x) 0 := by
  unfold wordAt
  rw [List.getD_eq_getElem?_getD, List.getD_eq_getElem?_getD, List.getElem?_take, if_pos hx, List.getElem?_drop]
theorem r_xor8c {P : Program} {o : Oper} {a : Act} {w : World} {t t' : TypeId} {x y : Operand} {m n q : UInt8} {c : Int} (hop : o.op = .binOp .xor t x y t') (hx : evO a x = some (.int .u8 (m.toNat : Int))) (hy : evO a y = some (.int .u8 c)) (hc : c = (n.toNat : Int)) (hq : m ^^^ n = q) : (execOp a.eval o).run P w = .ok (.value (.int .u8 (q.toNat : Int))) w := by
  subst hc; exact r_xor8 hop hx hy hq
theorem byte_low (s : Nat) : ((s : Nat) : Int) % 256 = ((UInt8.ofNat s).toNat : Int) := by simp
attribute [irreducible] fillK turnA turnR
end Go.Proofs.Ytkfggilildiflab

namespace Go.Proofs.Ytkfggilildiflab
open Go.ChangeShapes Go.WideShapes Go.ChangeAt Go.RowKit
attribute [local irreducible] wpList wpListIn
attribute [local irreducible] xorL sboxL subB sealV openV
set_option maxRecDepth 100000 in
set_option maxHeartbeats 2000000 in
theorem refWrap_key (key : List UInt8) (h : ¬ (key.length = 16 ∨ key.length = 32)) (hm : key.length ≤ maxLen) (v tv : Value) (w : World) (hv : BytesAt w v key) :
    Calls Try.prog 63 #[v, tv] w fun e w' => e = .returned (.tuple #[.slice none 0 0, .int .i64 3]) ∧ Below w.heap.size w w' := by
  have hS := St.start w
  go_enter Try.func63, Try.ntmps63
  repeat' (first | ((with_reducible refine cons_list ?_); first | ((first | refine g_skip stp_list ?_ | refine g_move stp_list ?_ | refine g_assign stp_list ?_ | refine g_load1 stp_list own_st hS ?_ | refine g_loadR stp_list own_st hS ?_ | refine g_indexAddr stp_list ?_ | refine g_indexAddrA stp_list ?_ | refine g_len stp_list ?_ | refine g_cap stp_list ?_ | refine g_extract stp_list ?_ | refine g_add stp_list ?_ | refine g_sub stp_list ?_ | refine g_mul stp_list ?_ | refine g_quo stp_list ?_ | refine g_rem stp_list ?_ | refine g_cmp_t stp_list ?_ | refine g_cmp_f stp_list ?_ | refine g_cmp stp_list (fun hc => ?_) (fun hc => ?_) | refine g_neqNil stp_list ?_ | refine g_neqNil0 stp_list ?_ | refine g_eqlNil stp_list ?_ | refine g_eqlNil0 stp_list ?_ | refine g_fieldAddr stp_list ?_ | refine g_field1 stp_list ?_ | refine g_fieldR stp_list ?_ | refine g_eqlSlNil stp_list ?_ | refine g_neqSlNil stp_list ?_ | refine g_makeInterface stp_list ?_ | refine g_makeFunc stp_list ?_ | refine g_conv stp_list ?_ | refine g_pick stp_list ?_ | refine g_not stp_list ?_ | refine g_slice stp_list ?_ | refine g_sliceA stp_list ?_ | refine g_sliceNil stp_list ?_) <;> refine put_in ?_) | ((first | refine g_alloc stp_list own_st hS ?_ | refine g_box stp_list own_st hS ?_ | refine g_build0 stp_list own_st hS ?_ | refine g_build stp_list own_st hS ?_ | refine g_make stp_list own_st hS ?_); clear hS; intro b w hS; refine put_in ?_) | ((first | refine g_store1 stp_list own_st hS ?_ | refine g_storeR stp_list own_st hS ?_); clear hS; intro w hS; refine put_in ?_)) | ((fail_if_success (with_reducible refine cons_list ?_)); first | go_step | go_step3 | rw [Exit.noGoto_normal] | rw [Exit.noGoto_ret] | rw [Exit.noGoto_exit]))
  refine s_call stp_list (by rfl) (by rfl) (by rfl) (by rfl) (by rfl) (by infer_instance) (refRoundsBad_any key (fun e => h (.inl e)) (fun e => h (.inr e)) v _ hv hm) ?_
  rintro e w' ⟨rfl, rfl⟩
  refine ⟨_, rfl, ?_⟩
  refine put_in ?_
  repeat' (first | ((with_reducible refine cons_list ?_); first | ((first | refine g_skip stp_list ?_ | refine g_move stp_list ?_ | refine g_assign stp_list ?_ | refine g_load1 stp_list own_st hS ?_ | refine g_loadR stp_list own_st hS ?_ | refine g_indexAddr stp_list ?_ | refine g_indexAddrA stp_list ?_ | refine g_len stp_list ?_ | refine g_cap stp_list ?_ | refine g_extract stp_list ?_ | refine g_add stp_list ?_ | refine g_sub stp_list ?_ | refine g_mul stp_list ?_ | refine g_quo stp_list ?_ | refine g_rem stp_list ?_ | refine g_cmp_t stp_list ?_ | refine g_cmp_f stp_list ?_ | refine g_cmp stp_list (fun hc => ?_) (fun hc => ?_) | refine g_neqNil stp_list ?_ | refine g_neqNil0 stp_list ?_ | refine g_eqlNil stp_list ?_ | refine g_eqlNil0 stp_list ?_ | refine g_fieldAddr stp_list ?_ | refine g_field1 stp_list ?_ | refine g_fieldR stp_list ?_ | refine g_eqlSlNil stp_list ?_ | refine g_neqSlNil stp_list ?_ | refine g_makeInterface stp_list ?_ | refine g_makeFunc stp_list ?_ | refine g_conv stp_list ?_ | refine g_pick stp_list ?_ | refine g_not stp_list ?_ | refine g_slice stp_list ?_ | refine g_sliceA stp_list ?_ | refine g_sliceNil stp_list ?_) <;> refine put_in ?_) | ((first | refine g_alloc stp_list own_st hS ?_ | refine g_box stp_list own_st hS ?_ | refine g_build0 stp_list own_st hS ?_ | refine g_build stp_list own_st hS ?_ | refine g_make stp_list own_st hS ?_); clear hS; intro b w hS; refine put_in ?_) | ((first | refine g_store1 stp_list own_st hS ?_ | refine g_storeR stp_list own_st hS ?_); clear hS; intro w hS; refine put_in ?_)) | ((fail_if_success (with_reducible refine cons_list ?_)); first | go_step | go_step3 | rw [Exit.noGoto_normal] | rw [Exit.noGoto_ret] | rw [Exit.noGoto_exit]))
  go_ret2
  exact ⟨rfl, hS.below⟩
set_option maxRecDepth 100000 in
set_option maxHeartbeats 2000000 in
theorem refWrap_form (key : List UInt8) (h : key.length = 16 ∨ key.length = 32) (v : Value) (p : Option Addr) (n c : Nat) (hn : n ≤ 9223372036854775807) (hbad : ¬ (n % 8 = 0 ∧ 16 ≤ n ∧ n ≤ 512)) (w : World) (hv : BytesAt w v key) :
    Calls Try.prog 63 #[v, .slice p n c] w fun e w' => e = .returned (.tuple #[.slice none 0 0, .int .i64 2]) ∧ Below w.heap.size w w' := by
  have hS := St.start w
  go_enter Try.func63, Try.ntmps63
  repeat' (first | ((with_reducible refine cons_list ?_); first | ((first | refine g_skip stp_list ?_ | refine g_move stp_list ?_ | refine g_assign stp_list ?_ | refine g_load1 stp_list own_st hS ?_ | refine g_loadR stp_list own_st hS ?_ | refine g_indexAddr stp_list ?_ | refine g_indexAddrA stp_list ?_ | refine g_len stp_list ?_ | refine g_cap stp_list ?_ | refine g_extract stp_list ?_ | refine g_add stp_list ?_ | refine g_sub stp_list ?_ | refine g_mul stp_list ?_ | refine g_quo stp_list ?_ | refine g_rem stp_list ?_ | refine g_cmp_t stp_list ?_ | refine g_cmp_f stp_list ?_ | refine g_cmp stp_list (fun hc => ?_) (fun hc => ?_) | refine g_neqNil stp_list ?_ | refine g_neqNil0 stp_list ?_ | refine g_eqlNil stp_list ?_ | refine g_eqlNil0 stp_list ?_ | refine g_fieldAddr stp_list ?_ | refine g_field1 stp_list ?_ | refine g_fieldR stp_list ?_ | refine g_eqlSlNil stp_list ?_ | refine g_neqSlNil stp_list ?_ | refine g_makeInterface stp_list ?_ | refine g_makeFunc stp_list ?_ | refine g_conv stp_list ?_ | refine g_pick stp_list ?_ | refine g_not stp_list ?_ | refine g_slice stp_list ?_ | refine g_sliceA stp_list ?_ | refine g_sliceNil stp_list ?_) <;> refine put_in ?_) | ((first | refine g_alloc stp_list own_st hS ?_ | refine g_box stp_list own_st hS ?_ | refine g_build0 stp_list own_st hS ?_ | refine g_build stp_list own_st hS ?_ | refine g_make stp_list own_st hS ?_); clear hS; intro b w hS; refine put_in ?_) | ((first | refine g_store1 stp_list own_st hS ?_ | refine g_storeR stp_list own_st hS ?_); clear hS; intro w hS; refine put_in ?_)) | ((fail_if_success (with_reducible refine cons_list ?_)); first | go_step | go_step3 | rw [Exit.noGoto_normal] | rw [Exit.noGoto_ret] | rw [Exit.noGoto_exit]))
  refine s_call stp_list (by rfl) (by rfl) (by rfl) (by rfl) (by rfl) (by infer_instance) (refRounds_good key h v _ hv) ?_
  rintro e w1 ⟨rp, rc, rfl, hR, hB⟩
  refine ⟨_, rfl, ?_⟩
  refine put_in ?_
  replace hS := hS.call hB
  clear hR
  by_cases h8 : n % 8 = 0
  · have h80 : (n : Int) % 8 = 0 := by omega
    by_cases h16 : 16 ≤ n
    · repeat' (first | ((with_reducible refine cons_list ?_); first | ((first | refine g_skip stp_list ?_ | refine g_move stp_list ?_ | refine g_assign stp_list ?_ | refine g_load1 stp_list own_st hS ?_ | refine g_loadR stp_list own_st hS ?_ | refine g_indexAddr stp_list ?_ | refine g_indexAddrA stp_list ?_ | refine g_len stp_list ?_ | refine g_cap stp_list ?_ | refine g_extract stp_list ?_ | refine g_add stp_list ?_ | refine g_sub stp_list ?_ | refine g_mul stp_list ?_ | refine g_quo stp_list ?_ | refine g_rem stp_list ?_ | refine g_cmp_t stp_list ?_ | refine g_cmp_f stp_list ?_ | refine g_cmp stp_list (fun hc => ?_) (fun hc => ?_) | refine g_neqNil stp_list ?_ | refine g_neqNil0 stp_list ?_ | refine g_eqlNil stp_list ?_ | refine g_eqlNil0 stp_list ?_ | refine g_fieldAddr stp_list ?_ | refine g_field1 stp_list ?_ | refine g_fieldR stp_list ?_ | refine g_eqlSlNil stp_list ?_ | refine g_neqSlNil stp_list ?_ | refine g_makeInterface stp_list ?_ | refine g_makeFunc stp_list ?_ | refine g_conv stp_list ?_ | refine g_pick stp_list ?_ | refine g_not stp_list ?_ | refine g_slice stp_list ?_ | refine g_sliceA stp_list ?_ | refine g_sliceNil stp_list ?_) <;> refine put_in ?_) | ((first | refine g_alloc stp_list own_st hS ?_ | refine g_box stp_list own_st hS ?_ | refine g_build0 stp_list own_st hS ?_ | refine g_build stp_list own_st hS ?_ | refine g_make stp_list own_st hS ?_); clear hS; intro b w hS; refine put_in ?_) | ((first | refine g_store1 stp_list own_st hS ?_ | refine g_storeR stp_list own_st hS ?_); clear hS; intro w hS; refine put_in ?_)) | ((fail_if_success (with_reducible refine cons_list ?_)); first | go_step | go_step3 | rw [Exit.noGoto_normal] | rw [Exit.noGoto_ret] | rw [Exit.noGoto_exit]))
      go_ret2
      exact ⟨rfl, hS.below⟩
    · repeat' (first | ((with_reducible refine cons_list ?_); first | ((first | refine g_skip stp_list ?_ | refine g_move stp_list ?_ | refine g_assign stp_list ?_ | refine g_load1 stp_list own_st hS ?_ | refine g_loadR stp_list own_st hS ?_ | refine g_indexAddr stp_list ?_ | refine g_indexAddrA stp_list ?_ | refine g_len stp_list ?_ | refine g_cap stp_list ?_ | refine g_extract stp_list ?_ | refine g_add stp_list ?_ | refine g_sub stp_list ?_ | refine g_mul stp_list ?_ | refine g_quo stp_list ?_ | refine g_rem stp_list ?_ | refine g_cmp_t stp_list ?_ | refine g_cmp_f stp_list ?_ | refine g_cmp stp_list (fun hc => ?_) (fun hc => ?_) | refine g_neqNil stp_list ?_ | refine g_neqNil0 stp_list ?_ | refine g_eqlNil stp_list ?_ | refine g_eqlNil0 stp_list ?_ | refine g_fieldAddr stp_list ?_ | refine g_field1 stp_list ?_ | refine g_fieldR stp_list ?_ | refine g_eqlSlNil stp_list ?_ | refine g_neqSlNil stp_list ?_ | refine g_makeInterface stp_list ?_ | refine g_makeFunc stp_list ?_ | refine g_conv stp_list ?_ | refine g_pick stp_list ?_ | refine g_not stp_list ?_ | refine g_slice stp_list ?_ | refine g_sliceA stp_list ?_ | refine g_sliceNil stp_list ?_) <;> refine put_in ?_) | ((first | refine g_alloc stp_list own_st hS ?_ | refine g_box stp_list own_st hS ?_ | refine g_build0 stp_list own_st hS ?_ | refine g_build stp_list own_st hS ?_ | refine g_make stp_list own_st hS ?_); clear hS; intro b w hS; refine put_in ?_) | ((first | refine g_store1 stp_list own_st hS ?_ | refine g_storeR stp_list own_st hS ?_); clear hS; intro w hS; refine put_in ?_)) | ((fail_if_success (with_reducible refine cons_list ?_)); first | go_step | go_step3 | rw [Exit.noGoto_normal] | rw [Exit.noGoto_ret] | rw [Exit.noGoto_exit]))
      go_ret2
      exact ⟨rfl, hS.below⟩
  · have h80 : ¬ (n : Int) % 8 = 0 := by omega
    repeat' (first | ((with_reducible refine cons_list ?_); first | ((first | refine g_skip stp_list ?_ | refine g_move stp_list ?_ | refine g_assign stp_list ?_ | refine g_load1 stp_list own_st hS ?_ | refine g_loadR stp_list own_st hS ?_ | refine g_indexAddr stp_list ?_ | refine g_indexAddrA stp_list ?_ | refine g_len stp_list ?_ | refine g_cap stp_list ?_ | refine g_extract stp_list ?_ | refine g_add stp_list ?_ | refine g_sub stp_list ?_ | refine g_mul stp_list ?_ | refine g_quo stp_list ?_ | refine g_rem stp_list ?_ | refine g_cmp_t stp_list ?_ | refine g_cmp_f stp_list ?_ | refine g_cmp stp_list (fun hc => ?_) (fun hc => ?_) | refine g_neqNil stp_list ?_ | refine g_neqNil0 stp_list ?_ | refine g_eqlNil stp_list ?_ | refine g_eqlNil0 stp_list ?_ | refine g_fieldAddr stp_list ?_ | refine g_field1 stp_list ?_ | refine g_fieldR stp_list ?_ | refine g_eqlSlNil stp_list ?_ | refine g_neqSlNil stp_list ?_ | refine g_makeInterface stp_list ?_ | refine g_makeFunc stp_list ?_ | refine g_conv stp_list ?_ | refine g_pick stp_list ?_ | refine g_not stp_list ?_ | refine g_slice stp_list ?_ | refine g_sliceA stp_list ?_ | refine g_sliceNil stp_list ?_) <;> refine put_in ?_) | ((first | refine g_alloc stp_list own_st hS ?_ | refine g_box stp_list own_st hS ?_ | refine g_build0 stp_list own_st hS ?_ | refine g_build stp_list own_st hS ?_ | refine g_make stp_list own_st hS ?_); clear hS; intro b w hS; refine put_in ?_) | ((first | refine g_store1 stp_list own_st hS ?_ | refine g_storeR stp_list own_st hS ?_); clear hS; intro w hS; refine put_in ?_)) | ((fail_if_success (with_reducible refine cons_list ?_)); first | go_step | go_step3 | rw [Exit.noGoto_normal] | rw [Exit.noGoto_ret] | rw [Exit.noGoto_exit]))
    go_ret2
    exact ⟨rfl, hS.below⟩
theorem cell_pre {R : List UInt8} {sp : List Value} {idx : Nat} (h : idx < R.length) : ((R.map bv ++ sp).toArray)[idx]? = some (.int .u8 ((R.getD idx 0).toNat : Int)) := by
  rw [← Array.getElem?_toList]
  show (R.map bv ++ sp)[idx]? = _
  rw [List.getElem?_append_left (by rw [List.length_map]; exact h), List.getElem?_map, get_some h]
  rfl
theorem pre_set {R : List UInt8} {sp : List Value} {idx : Nat} {b : UInt8} (h : idx < R.length) : ((R.map bv ++ sp).toArray).setIfInBounds idx (.int .u8 (b.toNat : Int)) = ((R.set idx b).map bv ++ sp).toArray := by
  rw [List.setIfInBounds_toArray, List.set_append_left _ _ (by rw [List.length_map]; exact h), List.map_set]
  rfl
set_option maxRecDepth 100000 in
set_option maxHeartbeats 4000000 in
theorem refWrap_good (key l : List UInt8) (h : key.length = 16 ∨ key.length = 32) (n : Nat) (hn : l.length = 8 * n) (hn2 : 2 ≤ n ∧ n ≤ 64) (v tv : Value) (w : World) (hv : BytesAt w v key) (ht : BytesAt w tv l) :
    Calls Try.prog 63 #[v, tv] w fun e w' => ∃ g c sp, e = .returned (.tuple #[.slice (some ⟨g, 0, none⟩) (l.length + 8) c, .int .i64 0]) ∧ l.length + 8 ≤ c ∧ w.heap.size ≤ g ∧ blk w' g = some (.cells ((wrapV key l).map bv ++ sp).toArray 5 (0, 0)) ∧ Below w.heap.size w w' := by
  have hl0 : l ≠ [] := by rintro rfl; simp at hn; omega
  have ht0 := ht
  obtain ⟨tp, tc, rfl, htc, hp0, hcell⟩ := id ht
  obtain ⟨tb, ti, tcs, tty, tfr, rfl, htb, htx⟩ := hcell hl0
  clear hp0 hcell htb htx ht0
  have hkl : key.length ≤ 100000 := by omega
  have hS := St.start w
  go_enter Try.func63, Try.ntmps63
  repeat' (first | ((with_reducible refine cons_list ?_); first | ((first | refine g_skip stp_list ?_ | refine g_move stp_list ?_ | refine g_assign stp_list ?_ | refine g_load1 stp_list own_st hS ?_ | refine g_loadR stp_list own_st hS ?_ | refine g_indexAddr stp_list ?_ | refine g_indexAddrA stp_list ?_ | refine g_len stp_list ?_ | refine g_cap stp_list ?_ | refine g_extract stp_list ?_ | refine g_add stp_list ?_ | refine g_sub stp_list ?_ | refine g_mul stp_list ?_ | refine g_quo stp_list ?_ | refine g_rem stp_list ?_ | refine g_cmp_t stp_list ?_ | refine g_cmp_f stp_list ?_ | refine g_cmp stp_list (fun hc => ?_) (fun hc => ?_) | refine g_neqNil stp_list ?_ | refine g_neqNil0 stp_list ?_ | refine g_eqlNil stp_list ?_ | refine g_eqlNil0 stp_list ?_ | refine g_fieldAddr stp_list ?_ | refine g_field1 stp_list ?_ | refine g_fieldR stp_list ?_ | refine g_eqlSlNil stp_list ?_ | refine g_neqSlNil stp_list ?_ | refine g_makeInterface stp_list ?_ | refine g_makeFunc stp_list ?_ | refine g_conv stp_list ?_ | refine g_pick stp_list ?_ | refine g_not stp_list ?_ | refine g_slice stp_list ?_ | refine g_sliceA stp_list ?_ | refine g_sliceNil stp_list ?_) <;> refine put_in ?_) | ((first | refine g_alloc stp_list own_st hS ?_ | refine g_box stp_list own_st hS ?_ | refine g_build0 stp_list own_st hS ?_ | refine g_build stp_list own_st hS ?_ | refine g_make stp_list own_st hS ?_); clear hS; intro b w hS; refine put_in ?_) | ((first | refine g_store1 stp_list own_st hS ?_ | refine g_storeR stp_list own_st hS ?_); clear hS; intro w hS; refine put_in ?_)) | ((fail_if_success (with_reducible refine cons_list ?_)); first | go_step | go_step3 | rw [Exit.noGoto_normal] | rw [Exit.noGoto_ret] | rw [Exit.noGoto_exit]))
  refine s_call stp_list (by rfl) (by rfl) (by rfl) (by rfl) (by rfl) (by infer_instance) (refRounds_good key h v _ hv) ?_
  rintro e w1 ⟨rp, rc, rfl, hR, hB⟩
  refine ⟨_, rfl, ?_⟩
  refine put_in ?_
  clear hS
  have ht1 := ht.below hB
  have hS := St.start w1
  have h80 : ((l.length : Nat) : Int) % 8 = 0 := by omega
  have h8n : ((l.length : Nat) : Int) / 8 = n := by omega
  repeat' (first | ((with_reducible refine cons_list ?_); first | ((first | refine g_skip stp_list ?_ | refine g_move stp_list ?_ | refine g_assign stp_list ?_ | refine g_load1 stp_list own_st hS ?_ | refine g_loadR stp_list own_st hS ?_ | refine g_indexAddr stp_list ?_ | refine g_indexAddrA stp_list ?_ | refine g_len stp_list ?_ | refine g_cap stp_list ?_ | refine g_extract stp_list ?_ | refine g_add stp_list ?_ | refine g_sub stp_list ?_ | refine g_mul stp_list ?_ | refine g_quo stp_list ?_ | refine g_rem stp_list ?_ | refine g_cmp_t stp_list ?_ | refine g_cmp_f stp_list ?_ | refine g_cmp stp_list (fun hc => ?_) (fun hc => ?_) | refine g_neqNil stp_list ?_ | refine g_neqNil0 stp_list ?_ | refine g_eqlNil stp_list ?_ | refine g_eqlNil0 stp_list ?_ | refine g_fieldAddr stp_list ?_ | refine g_field1 stp_list ?_ | refine g_fieldR stp_list ?_ | refine g_eqlSlNil stp_list ?_ | refine g_neqSlNil stp_list ?_ | refine g_makeInterface stp_list ?_ | refine g_makeFunc stp_list ?_ | refine g_conv stp_list ?_ | refine g_pick stp_list ?_ | refine g_not stp_list ?_ | refine g_slice stp_list ?_ | refine g_sliceA stp_list ?_ | refine g_sliceNil stp_list ?_) <;> refine put_in ?_) | ((first | refine g_alloc stp_list own_st hS ?_ | refine g_box stp_list own_st hS ?_ | refine g_build0 stp_list own_st hS ?_ | refine g_build stp_list own_st hS ?_ | refine g_make stp_list own_st hS ?_); clear hS; intro b w hS; refine put_in ?_) | ((first | refine g_store1 stp_list own_st hS ?_ | refine g_storeR stp_list own_st hS ?_); clear hS; intro w hS; refine put_in ?_) | fail) | ((fail_if_success (with_reducible refine cons_list ?_)); first | go_step | go_step3 | rw [Exit.noGoto_normal] | rw [Exit.noGoto_ret] | rw [Exit.noGoto_exit]))
  rename_i ga wga KK hKK
  refine s_append stp_list own_st hS (by rfl) (by rfl) (by rfl) (by rfl) (by infer_instance) (by exact at_ 0 rfl) (olds := []) (spare := []) (by rfl) (by rfl) (by omega) (by rfl) (ht1.below hS.below).srcs (by rw [List.length_map, Nat.mul_one]) (bv_one l) (by unfold maxLen; omega) (by (try conv => lhs; simp only [Int.toNat_natCast, Int.toNat_zero, Int.toNat_one, Int.reduceToNat, Int.toNat_natCast_add_one, Int.ofNat_eq_natCast, Nat.mul_one, Nat.one_mul, Nat.zero_add, Nat.add_zero, Nat.sub_zero, Nat.zero_mul, Nat.reduceAdd, Nat.reduceMul, Nat.reduceSub]); first | done | rfl) ?_
  clear hS
  intro go co spo w2 ho1 ho2 ho3 hS
  refine put_in ?_
  rw [h8n]
  obtain ⟨X, hX⟩ : ∃ X : Nat → List UInt8 × List UInt8, X = fun k => wSteps (sealV key) n (a6L, l) k := ⟨_, rfl⟩
  have hXz : X 0 = (a6L, l) := by rw [hX]; exact wSteps_zero _ _ _
  have hXs : ∀ k, X (k + 1) = wStep (sealV key) n (X k) k := fun k => by rw [hX]; exact wSteps_succ _ _ _ _
  have hXf : ∀ k, InForm n (X k) := fun k => by rw [hX]; exact wSteps_form (seal_len' h) (by omega) (x := (a6L, l)) ⟨rfl, hn⟩ k
  have hXe : wrapV key l = (X (6 * n)).1 ++ (X (6 * n)).2 := by rw [hX]; unfold wrapV wrapX; rw [show l.length / 8 = n by omega]
  clear hX
  have HN := hid hn
  have hS : St w1 w2 [(go, (l.map bv ++ spo).toArray, 5), (ga, bvs a6L, 5)] := hS
  repeat' (first | ((with_reducible refine cons_list ?_); first | ((first | refine g_skip stp_list ?_ | refine g_move stp_list ?_ | refine g_assign stp_list ?_ | refine g_load1 stp_list own_st hS ?_ | refine g_loadR stp_list own_st hS ?_ | refine g_indexAddr stp_list ?_ | refine g_indexAddrA stp_list ?_ | refine g_len stp_list ?_ | refine g_cap stp_list ?_ | refine g_extract stp_list ?_ | refine g_add stp_list ?_ | refine g_sub stp_list ?_ | refine g_mul stp_list ?_ | refine g_quo stp_list ?_ | refine g_rem stp_list ?_ | refine g_cmp_t stp_list ?_ | refine g_cmp_f stp_list ?_ | refine g_cmp stp_list (fun hc => ?_) (fun hc => ?_) | refine g_neqNil stp_list ?_ | refine g_neqNil0 stp_list ?_ | refine g_eqlNil stp_list ?_ | refine g_eqlNil0 stp_list ?_ | refine g_fieldAddr stp_list ?_ | refine g_field1 stp_list ?_ | refine g_fieldR stp_list ?_ | refine g_eqlSlNil stp_list ?_ | refine g_neqSlNil stp_list ?_ | refine g_makeInterface stp_list ?_ | refine g_makeFunc stp_list ?_ | refine g_conv stp_list ?_ | refine g_pick stp_list ?_ | refine g_not stp_list ?_ | refine g_slice stp_list ?_ | refine g_sliceA stp_list ?_ | refine g_sliceNil stp_list ?_) <;> refine put_in ?_) | ((first | refine g_alloc stp_list own_st hS ?_ | refine g_box stp_list own_st hS ?_ | refine g_build0 stp_list own_st hS ?_ | refine g_build stp_list own_st hS ?_ | refine g_make stp_list own_st hS ?_); clear hS; intro b w hS; refine put_in ?_) | ((first | refine g_store1 stp_list own_st hS ?_ | refine g_storeR stp_list own_st hS ?_); clear hS; intro w hS; refine put_in ?_)) | ((fail_if_success (with_reducible refine cons_list ?_)); first | go_step | go_step3 | rw [Exit.noGoto_normal] | rw [Exit.noGoto_ret] | rw [Exit.noGoto_exit]))
  go_loopw [11, 12] (fun u11 u12 wr => ∃ j : Nat, j ≤ 6 ∧ u12 = .int .i64 (j : Int) ∧ u11 = .int .i64 ((j * n : Nat) : Int) ∧ St w1 wr [(go, ((X (j * n)).2.map bv ++ spo).toArray, 5), (ga, bvs (X (j * n)).1, 5)]) (fun _ u12 _ => 6 - (intOf u12).toNat)
  case atStart => exact ⟨0, by omega, rfl, by rw [Nat.zero_mul]; rfl, by rw [Nat.zero_mul, hXz]; exact hS⟩
  case round =>
    obtain ⟨j, hj, rfl, rfl, hS⟩ := hrel
    by_cases hlt : j < 6
    · repeat' (first | ((with_reducible refine cons_list ?_); first | ((first | refine g_skip stp_list ?_ | refine g_move stp_list ?_ | refine g_assign stp_list ?_ | refine g_load1 stp_list own_st hS ?_ | refine g_loadR stp_list own_st hS ?_ | refine g_indexAddr stp_list ?_ | refine g_indexAddrA stp_list ?_ | refine g_len stp_list ?_ | refine g_cap stp_list ?_ | refine g_extract stp_list ?_ | refine g_add stp_list ?_ | refine g_sub stp_list ?_ | refine g_mul stp_list ?_ | refine g_quo stp_list ?_ | refine g_rem stp_list ?_ | refine g_cmp_t stp_list ?_ | refine g_cmp_f stp_list ?_ | refine g_cmp stp_list (fun hc => ?_) (fun hc => ?_) | refine g_neqNil stp_list ?_ | refine g_neqNil0 stp_list ?_ | refine g_eqlNil stp_list ?_ | refine g_eqlNil0 stp_list ?_ | refine g_fieldAddr stp_list ?_ | refine g_field1 stp_list ?_ | refine g_fieldR stp_list ?_ | refine g_eqlSlNil stp_list ?_ | refine g_neqSlNil stp_list ?_ | refine g_makeInterface stp_list ?_ | refine g_makeFunc stp_list ?_ | refine g_conv stp_list ?_ | refine g_pick stp_list ?_ | refine g_not stp_list ?_ | refine g_slice stp_list ?_ | refine g_sliceA stp_list ?_ | refine g_sliceNil stp_list ?_) <;> refine put_in ?_) | ((first | refine g_alloc stp_list own_st hS ?_ | refine g_box stp_list own_st hS ?_ | refine g_build0 stp_list own_st hS ?_ | refine g_build stp_list own_st hS ?_ | refine g_make stp_list own_st hS ?_); clear hS; intro b w hS; refine put_in ?_) | ((first | refine g_store1 stp_list own_st hS ?_ | refine g_storeR stp_list own_st hS ?_); clear hS; intro w hS; refine put_in ?_)) | ((fail_if_success (with_reducible refine cons_list ?_)); first | go_step | go_step3 | rw [Exit.noGoto_normal] | rw [Exit.noGoto_ret] | rw [Exit.noGoto_exit]))
      go_loopw [11, 13] (fun u11 u13 wr => ∃ i : Nat, i ≤ n ∧ u13 = .int .i64 (i : Int) ∧ u11 = .int .i64 ((j * n + i : Nat) : Int) ∧ St w1 wr [(go, ((X (j * n + i)).2.map bv ++ spo).toArray, 5), (ga, bvs (X (j * n + i)).1, 5)]) (fun _ u13 _ => n - (intOf u13).toNat)
      case atStart => exact ⟨0, by omega, rfl, rfl, hS⟩
      case round =>
        obtain ⟨i, hi, rfl, rfl, hS⟩ := hrel
        by_cases hlt2 : i < n
        · obtain ⟨s, hs⟩ : ∃ s, s = j * n + i := ⟨_, rfl⟩
          rw [← hs] at hS ⊢
          have hmod : s % n = i := by rw [hs, Nat.add_comm, Nat.add_mul_mod_self_right]; exact Nat.mod_eq_of_lt hlt2
          have hsb : s < 384 := by
            have : j * n ≤ 5 * 64 := Nat.mul_le_mul (by omega) (by omega)
            omega
          obtain ⟨f1, f2⟩ := hXf s
          obtain ⟨A, hA⟩ : ∃ A, A = (X s).1 := ⟨_, rfl⟩
          obtain ⟨R, hRr⟩ : ∃ R, R = (X s).2 := ⟨_, rfl⟩
          rw [← hA, ← hRr] at hS
          rw [← hA] at f1
          rw [← hRr] at f2
          have g3 := wordAt_len (l := R) (i := i) (by omega)
          repeat' (first | ((with_reducible refine cons_list ?_); first | ((first | refine g_skip stp_list ?_ | refine g_move stp_list ?_ | refine g_assign stp_list ?_ | refine g_load1 stp_list own_st hS ?_ | refine g_loadR stp_list own_st hS ?_ | refine g_indexAddr stp_list ?_ | refine g_indexAddrA stp_list ?_ | refine g_len stp_list ?_ | refine g_cap stp_list ?_ | refine g_extract stp_list ?_ | refine g_add stp_list ?_ | refine g_sub stp_list ?_ | refine g_mul stp_list ?_ | refine g_quo stp_list ?_ | refine g_rem stp_list ?_ | refine g_cmp_t stp_list ?_ | refine g_cmp_f stp_list ?_ | refine g_cmp stp_list (fun hc => ?_) (fun hc => ?_) | refine g_neqNil stp_list ?_ | refine g_neqNil0 stp_list ?_ | refine g_eqlNil stp_list ?_ | refine g_eqlNil0 stp_list ?_ | refine g_fieldAddr stp_list ?_ | refine g_field1 stp_list ?_ | refine g_fieldR stp_list ?_ | refine g_eqlSlNil stp_list ?_ | refine g_neqSlNil stp_list ?_ | refine g_makeInterface stp_list ?_ | refine g_makeFunc stp_list ?_ | refine g_conv stp_list ?_ | refine g_pick stp_list ?_ | refine g_not stp_list ?_ | refine g_slice stp_list ?_ | refine g_sliceA stp_list ?_ | refine g_sliceNil stp_list ?_) <;> refine put_in ?_) | ((first | refine g_alloc stp_list own_st hS ?_ | refine g_box stp_list own_st hS ?_ | refine g_build0 stp_list own_st hS ?_ | refine g_build stp_list own_st hS ?_ | refine g_make stp_list own_st hS ?_); clear hS; intro b w hS; refine put_in ?_) | ((first | refine g_store1 stp_list own_st hS ?_ | refine g_storeR stp_list own_st hS ?_); clear hS; intro w hS; refine put_in ?_)) | ((fail_if_success (with_reducible refine cons_list ?_)); first | go_step | go_step3 | rw [Exit.noGoto_normal] | rw [Exit.noGoto_ret] | rw [Exit.noGoto_exit]))
          go_loopw [15] (fun u15 wr => ∃ x : Nat, x ≤ 8 ∧ u15 = .int .i64 (x : Int) ∧ St w1 wr [(b, bvs (fillK A (wordAt R i) x), 149), (go, (R.map bv ++ spo).toArray, 5), (ga, bvs A, 5)]) (fun u15 _ => 8 - (intOf u15).toNat)
          case atStart => exact ⟨0, by omega, rfl, by rw [fillK_zero]; exact hS⟩
          case round =>
            obtain ⟨x, hx, rfl, hS⟩ := hrel
            by_cases hlt3 : x < 8
            · obtain ⟨K, hK⟩ : ∃ K, K = fillK A (wordAt R i) x := ⟨_, rfl⟩
              rw [← hK] at hS
              have hKl : K.length = 16 := by rw [hK]; exact fillK_len _ _ _
              have hRl : 8 * n ≤ csz ((R.map bv ++ spo).toArray) := by rw [csz_list, List.length_append, List.length_map]; omega
              repeat' (first | ((with_reducible refine cons_list ?_); first | ((first | refine g_skip stp_list ?_ | refine g_move stp_list ?_ | refine g_assign stp_list ?_ | refine g_load1 stp_list own_st hS ?_ (hv := by first | rfl | exact bvs_getLA | (rw [Array.getElem?_toList]; exact cell_pre (by omega))) | refine g_loadR stp_list own_st hS ?_ (hv := by first | exact cut_whole _ _ (by (try simp only [csz_setc, csz_bvs, csz_list, List.length_append, List.length_set, zs_len, List.length_take, List.length_drop, List.length_cons, List.length_nil]); first | done | rfl | omega) | (exact cell_pre (by omega)) | rfl) | refine g_indexAddr stp_list ?_ | refine g_indexAddrA stp_list ?_ | refine g_len stp_list ?_ | refine g_cap stp_list ?_ | refine g_extract stp_list ?_ | refine g_add stp_list ?_ | refine g_sub stp_list ?_ | refine g_mul stp_list ?_ | refine g_quo stp_list ?_ | refine g_rem stp_list ?_ | refine g_cmp_t stp_list ?_ | refine g_cmp_f stp_list ?_ | refine g_cmp stp_list (fun hc => ?_) (fun hc => ?_) | refine g_neqNil stp_list ?_ | refine g_neqNil0 stp_list ?_ | refine g_eqlNil stp_list ?_ | refine g_eqlNil0 stp_list ?_ | refine g_fieldAddr stp_list ?_ | refine g_field1 stp_list ?_ (hv' := by first | rfl | exact bvs_getLA | (rw [Array.getElem?_toList]; exact cell_pre (by omega))) | refine g_fieldR stp_list ?_ | refine g_eqlSlNil stp_list ?_ | refine g_neqSlNil stp_list ?_ | refine g_makeInterface stp_list ?_ | refine g_makeFunc stp_list ?_ | refine g_conv stp_list ?_ | refine g_pick stp_list ?_ | refine g_not stp_list ?_ | refine g_slice stp_list ?_ | refine g_sliceA stp_list ?_ | refine g_sliceNil stp_list ?_) <;> refine put_in ?_) | ((first | refine g_alloc stp_list own_st hS ?_ | refine g_box stp_list own_st hS ?_ | refine g_build0 stp_list own_st hS ?_ | refine g_build stp_list own_st hS ?_ | refine g_make stp_list own_st hS ?_); clear hS; intro b w hS; refine put_in ?_) | ((first | refine g_store1 stp_list own_st hS ?_ | refine g_storeR stp_list own_st hS ?_); clear hS; intro w hS; refine put_in ?_)) | ((fail_if_success (with_reducible refine cons_list ?_)); first | go_step | go_step3 | rw [Exit.noGoto_normal] | rw [Exit.noGoto_ret] | rw [Exit.noGoto_exit]))
              have hKK : ((bvs K).setIfInBounds x (.int .u8 ((A.getD x 0).toNat : Int))).setIfInBounds (8 + (x : Int)).toNat (.int .u8 ((R.getD (8 * (i : Int) + (x : Int)).toNat 0).toNat : Int)) = bvs (fillK A (wordAt R i) (x + 1)) := by
                rw [show (8 + (x : Int)).toNat = 8 + x by omega, show (8 * (i : Int) + (x : Int)).toNat = 8 * i + x by omega, bvs_set, bvs_set, ← wordAt_getD hlt3, hK, fillK_succ _ _ hlt3]
              rw [hKK] at hS
              go_roundw
              case rel => exact ⟨x + 1, by omega, by push_cast; rfl, hS⟩
              case measure => first | (simp [intOf]; done) | (simp [intOf]; omega)
            · obtain rfl : x = 8 := by omega
              rw [fillK_done f1 g3] at hS
              have g4 : (A ++ wordAt R i).length = 16 := by rw [List.length_append, f1, g3]
              repeat' (first | ((with_reducible refine cons_list ?_); first | ((first | refine g_skip stp_list ?_ | refine g_move stp_list ?_ | refine g_assign stp_list ?_ | refine g_load1 stp_list own_st hS ?_ | refine g_loadR stp_list own_st hS ?_ | refine g_indexAddr stp_list ?_ | refine g_indexAddrA stp_list ?_ | refine g_len stp_list ?_ | refine g_cap stp_list ?_ | refine g_extract stp_list ?_ | refine g_add stp_list ?_ | refine g_sub stp_list ?_ | refine g_mul stp_list ?_ | refine g_quo stp_list ?_ | refine g_rem stp_list ?_ | refine g_cmp_t stp_list ?_ | refine g_cmp_f stp_list ?_ | refine g_cmp stp_list (fun hc => ?_) (fun hc => ?_) | refine g_neqNil stp_list ?_ | refine g_neqNil0 stp_list ?_ | refine g_eqlNil stp_list ?_ | refine g_eqlNil0 stp_list ?_ | refine g_fieldAddr stp_list ?_ | refine g_field1 stp_list ?_ | refine g_fieldR stp_list ?_ | refine g_eqlSlNil stp_list ?_ | refine g_neqSlNil stp_list ?_ | refine g_makeInterface stp_list ?_ | refine g_makeFunc stp_list ?_ | refine g_conv stp_list ?_ | refine g_pick stp_list ?_ | refine g_not stp_list ?_ | refine g_slice stp_list ?_ | refine g_sliceA stp_list ?_ | refine g_sliceNil stp_list ?_) <;> refine put_in ?_) | ((first | refine g_alloc stp_list own_st hS ?_ | refine g_box stp_list own_st hS ?_ | refine g_build0 stp_list own_st hS ?_ | refine g_build stp_list own_st hS ?_ | refine g_make stp_list own_st hS ?_); clear hS; intro b w hS; refine put_in ?_) | ((first | refine g_store1 stp_list own_st hS ?_ | refine g_storeR stp_list own_st hS ?_); clear hS; intro w hS; refine put_in ?_)) | ((fail_if_success (with_reducible refine cons_list ?_)); first | go_step | go_step3 | rw [Exit.noGoto_normal] | rw [Exit.noGoto_ret] | rw [Exit.noGoto_exit]))
              (refine g_callq stp_list own_st hS (refSeal_any key _ h g4 hkl _ _ (hR.below hS.below)) ?_; clear hS; intro w hS; refine put_in ?_)
              obtain ⟨y, hy⟩ : ∃ y, y = sealV key (A ++ wordAt R i) := ⟨_, rfl⟩
              have g5 : y.length = 16 := by rw [hy]; exact seal_len' h _ g4
              rw [← hy]
              repeat' (first | ((with_reducible refine cons_list ?_); first | ((first | refine g_skip stp_list ?_ | refine g_move stp_list ?_ | refine g_assign stp_list ?_ | refine g_load1 stp_list own_st hS ?_ | refine g_loadR stp_list own_st hS ?_ | refine g_indexAddr stp_list ?_ | refine g_indexAddrA stp_list ?_ | refine g_len stp_list ?_ | refine g_cap stp_list ?_ | refine g_extract stp_list ?_ | refine g_add stp_list ?_ | refine g_sub stp_list ?_ | refine g_mul stp_list ?_ | refine g_quo stp_list ?_ | refine g_rem stp_list ?_ | refine g_cmp_t stp_list ?_ | refine g_cmp_f stp_list ?_ | refine g_cmp stp_list (fun hc => ?_) (fun hc => ?_) | refine g_neqNil stp_list ?_ | refine g_neqNil0 stp_list ?_ | refine g_eqlNil stp_list ?_ | refine g_eqlNil0 stp_list ?_ | refine g_fieldAddr stp_list ?_ | refine g_field1 stp_list ?_ | refine g_fieldR stp_list ?_ | refine g_eqlSlNil stp_list ?_ | refine g_neqSlNil stp_list ?_ | refine g_makeInterface stp_list ?_ | refine g_makeFunc stp_list ?_ | refine g_conv stp_list ?_ | refine g_pick stp_list ?_ | refine g_not stp_list ?_ | refine g_slice stp_list ?_ | refine g_sliceA stp_list ?_ | refine g_sliceNil stp_list ?_) <;> refine put_in ?_) | ((first | refine g_alloc stp_list own_st hS ?_ | refine g_box stp_list own_st hS ?_ | refine g_build0 stp_list own_st hS ?_ | refine g_build stp_list own_st hS ?_ | refine g_make stp_list own_st hS ?_); clear hS; intro b w hS; refine put_in ?_) | ((first | refine g_store1 stp_list own_st hS ?_ | refine g_storeR stp_list own_st hS ?_); clear hS; intro w hS; refine put_in ?_)) | ((fail_if_success (with_reducible refine cons_list ?_)); first | go_step | go_step3 | rw [Exit.noGoto_normal] | rw [Exit.noGoto_ret] | rw [Exit.noGoto_exit]))
              go_loopw [16, 17] (fun u16 u17 wr => ∃ x : Nat, x ≤ 8 ∧ u17 = .int .i64 ((x : Int) - 1) ∧ u16 = .int .i64 (((s + 1) / 256 ^ (8 - x) : Nat) : Int) ∧ St w1 wr [(b, bvs y, 149), (go, ((turnR R y i x).map bv ++ spo).toArray, 5), (ga, bvs (turnA A y (s + 1) x), 5)]) (fun _ u17 _ => (intOf u17 + 1).toNat)
              case atStart => exact ⟨8, by omega, rfl, by simp, by rw [turnR_full, turnA_full f1]; exact hS⟩
              case round =>
                obtain ⟨x1, hx1, rfl, rfl, hS⟩ := hrel
                by_cases hx0 : 0 < x1
                · obtain ⟨x, rfl⟩ : ∃ x, x1 = x + 1 := ⟨x1 - 1, by omega⟩
                  rw [show ((x + 1 : Nat) : Int) - 1 = (x : Int) by omega]
                  have hlt4 : x < 8 := by omega
                  obtain ⟨T, hT⟩ : ∃ T, T = (s + 1) / 256 ^ (8 - (x + 1)) := ⟨_, rfl⟩
                  have hTb : T ≤ 385 := by rw [hT]; exact Nat.le_trans (Nat.div_le_self _ _) (by omega)
                  have hT7 : T = (s + 1) / 256 ^ (7 - x) := by rw [hT, show 8 - (x + 1) = 7 - x by omega]
                  rw [← hT]
                  obtain ⟨K, hK⟩ : ∃ K, K = turnA A y (s + 1) (x + 1) := ⟨_, rfl⟩
                  obtain ⟨R2, hR2⟩ : ∃ R2, R2 = turnR R y i (x + 1) := ⟨_, rfl⟩
                  rw [← hK, ← hR2] at hS
                  have hKl : K.length = 8 := by rw [hK]; exact turnA_len _ _ _ _
                  have hR2l : R2.length = 8 * n := by rw [hR2, turnR_len]; exact f2
                  have hRl : (R2.map bv).length = 8 * n := by rw [List.length_map]; exact hR2l
                  repeat' (first | ((with_reducible refine cons_list ?_); first | ((first | refine g_skip stp_list ?_ | refine g_move stp_list ?_ | refine g_assign stp_list ?_ | refine g_load1 stp_list own_st hS ?_ (hv := by first | rfl | exact bvs_getLA | (rw [Array.getElem?_toList]; exact cell_pre (by omega))) | refine g_loadR stp_list own_st hS ?_ (hv := by first | exact cut_whole _ _ (by (try simp only [csz_setc, csz_bvs, csz_list, List.length_append, List.length_set, zs_len, List.length_take, List.length_drop, List.length_cons, List.length_nil]); first | done | rfl | omega) | (exact cell_pre (by omega)) | rfl) | refine g_indexAddr stp_list ?_ | refine g_indexAddrA stp_list ?_ | refine g_len stp_list ?_ | refine g_cap stp_list ?_ | refine g_extract stp_list ?_ | refine g_add stp_list ?_ | refine g_sub stp_list ?_ | refine g_mul stp_list ?_ | refine g_quo stp_list ?_ | refine g_rem stp_list ?_ | refine g_cmp_t stp_list ?_ | refine g_cmp_f stp_list ?_ | refine g_cmp stp_list (fun hc => ?_) (fun hc => ?_) | refine g_neqNil stp_list ?_ | refine g_neqNil0 stp_list ?_ | refine g_eqlNil stp_list ?_ | refine g_eqlNil0 stp_list ?_ | refine g_fieldAddr stp_list ?_ | refine g_field1 stp_list ?_ (hv' := by first | rfl | exact bvs_getLA | (rw [Array.getElem?_toList]; exact cell_pre (by omega))) | refine g_fieldR stp_list ?_ | refine g_eqlSlNil stp_list ?_ | refine g_neqSlNil stp_list ?_ | refine g_makeInterface stp_list ?_ | refine g_makeFunc stp_list ?_ | refine g_conv stp_list ?_ | refine g_pick stp_list ?_ | refine g_not stp_list ?_ | refine g_slice stp_list ?_ | refine g_sliceA stp_list ?_ | refine g_sliceNil stp_list ?_) <;> refine put_in ?_) | ((first | refine g_alloc stp_list own_st hS ?_ | refine g_box stp_list own_st hS ?_ | refine g_build0 stp_list own_st hS ?_ | refine g_build stp_list own_st hS ?_ | refine g_make stp_list own_st hS ?_); clear hS; intro b w hS; refine put_in ?_) | ((first | refine g_store1 stp_list own_st hS ?_ | refine g_storeR stp_list own_st hS ?_); clear hS; intro w hS; refine put_in ?_) | (refine Stp.go stp_list (by rfl) (by rfl) (r_xor8c (n := UInt8.ofNat T) (by rfl) (by rfl) (by rfl) (byte_low T) rfl) ?_; refine put_in ?_)) | ((fail_if_success (with_reducible refine cons_list ?_)); first | go_step | go_step3 | rw [Exit.noGoto_normal] | rw [Exit.noGoto_ret] | rw [Exit.noGoto_exit]))
                  have hKK : (bvs K).setIfInBounds x (.int .u8 ((y.getD x 0 ^^^ UInt8.ofNat T).toNat : Int)) = bvs (turnA A y (s + 1) x) := by
                    rw [bvs_set, hK, hT7, turnA_step _ _ _ hlt4]
                  have hRR : ((R2.map bv ++ spo).toArray).setIfInBounds (8 * (i : Int) + (x : Int)).toNat (.int .u8 ((y.getD (8 + (x : Int)).toNat 0).toNat : Int)) = ((turnR R y i x).map bv ++ spo).toArray := by
                    rw [show (8 + (x : Int)).toNat = 8 + x by omega, show (8 * (i : Int) + (x : Int)).toNat = 8 * i + x by omega, pre_set (by omega), hR2, turnR_step _ _ _ hlt4]
                  rw [hKK] at hS
                  rw [List.setIfInBounds_toArray] at hRR
                  rw [hRR] at hS
                  go_roundw
                  case rel => exact ⟨x, by omega, by rfl, by rw [hT7, show 8 - x = (7 - x) + 1 by omega, Nat.pow_succ, ← Nat.div_div_eq_div_mul]; rfl, hS⟩
                  case measure => first | (simp [intOf]; done) | (simp [intOf]; omega)
                · obtain rfl : x1 = 0 := by omega
                  have hstep : X (s + 1) = (turnA A y (s + 1) 0, turnR R y i 0) := by
                    rw [hXs, turnA_done g5, turnR_done (by omega) g5, ← hmod]
                    have e2 : X s = (A, R) := by rw [hA, hRr]
                    rw [e2]
                    exact wStep_of (by rw [hmod]; exact hy.symm)
                  have hS2 := own_st.drop hS
                  have e3 : turnR R y i 0 = (X (s + 1)).2 := by rw [hstep]
                  have e4 : turnA A y (s + 1) 0 = (X (s + 1)).1 := by rw [hstep]
                  rw [e3, e4] at hS2
                  repeat' (first | ((with_reducible refine cons_list ?_); first | ((first | refine g_skip stp_list ?_ | refine g_move stp_list ?_ | refine g_assign stp_list ?_ | refine g_load1 stp_list own_st hS ?_ | refine g_loadR stp_list own_st hS ?_ | refine g_indexAddr stp_list ?_ | refine g_indexAddrA stp_list ?_ | refine g_len stp_list ?_ | refine g_cap stp_list ?_ | refine g_extract stp_list ?_ | refine g_add stp_list ?_ | refine g_sub stp_list ?_ | refine g_mul stp_list ?_ | refine g_quo stp_list ?_ | refine g_rem stp_list ?_ | refine g_cmp_t stp_list ?_ | refine g_cmp_f stp_list ?_ | refine g_cmp stp_list (fun hc => ?_) (fun hc => ?_) | refine g_neqNil stp_list ?_ | refine g_neqNil0 stp_list ?_ | refine g_eqlNil stp_list ?_ | refine g_eqlNil0 stp_list ?_ | refine g_fieldAddr stp_list ?_ | refine g_field1 stp_list ?_ | refine g_fieldR stp_list ?_ | refine g_eqlSlNil stp_list ?_ | refine g_neqSlNil stp_list ?_ | refine g_makeInterface stp_list ?_ | refine g_makeFunc stp_list ?_ | refine g_conv stp_list ?_ | refine g_pick stp_list ?_ | refine g_not stp_list ?_ | refine g_slice stp_list ?_ | refine g_sliceA stp_list ?_ | refine g_sliceNil stp_list ?_) <;> refine put_in ?_) | ((first | refine g_alloc stp_list own_st hS ?_ | refine g_box stp_list own_st hS ?_ | refine g_build0 stp_list own_st hS ?_ | refine g_build stp_list own_st hS ?_ | refine g_make stp_list own_st hS ?_); clear hS; intro b w hS; refine put_in ?_) | ((first | refine g_store1 stp_list own_st hS ?_ | refine g_storeR stp_list own_st hS ?_); clear hS; intro w hS; refine put_in ?_)) | ((fail_if_success (with_reducible refine cons_list ?_)); first | go_step | go_step3 | rw [Exit.noGoto_normal] | rw [Exit.noGoto_ret] | rw [Exit.noGoto_exit]))
                  go_roundw
                  case rel => exact ⟨i + 1, by omega, by push_cast; rfl, by rw [hs]; rfl, by rw [← Nat.add_assoc, ← hs]; exact hS2⟩
                  case measure => first | (simp [intOf]; done) | (simp [intOf]; omega)
        · obtain rfl : i = n := by omega
          repeat' (first | ((with_reducible refine cons_list ?_); first | ((first | refine g_skip stp_list ?_ | refine g_move stp_list ?_ | refine g_assign stp_list ?_ | refine g_load1 stp_list own_st hS ?_ | refine g_loadR stp_list own_st hS ?_ | refine g_indexAddr stp_list ?_ | refine g_indexAddrA stp_list ?_ | refine g_len stp_list ?_ | refine g_cap stp_list ?_ | refine g_extract stp_list ?_ | refine g_add stp_list ?_ | refine g_sub stp_list ?_ | refine g_mul stp_list ?_ | refine g_quo stp_list ?_ | refine g_rem stp_list ?_ | refine g_cmp_t stp_list ?_ | refine g_cmp_f stp_list ?_ | refine g_cmp stp_list (fun hc => ?_) (fun hc => ?_) | refine g_neqNil stp_list ?_ | refine g_neqNil0 stp_list ?_ | refine g_eqlNil stp_list ?_ | refine g_eqlNil0 stp_list ?_ | refine g_fieldAddr stp_list ?_ | refine g_field1 stp_list ?_ | refine g_fieldR stp_list ?_ | refine g_eqlSlNil stp_list ?_ | refine g_neqSlNil stp_list ?_ | refine g_makeInterface stp_list ?_ | refine g_makeFunc stp_list ?_ | refine g_conv stp_list ?_ | refine g_pick stp_list ?_ | refine g_not stp_list ?_ | refine g_slice stp_list ?_ | refine g_sliceA stp_list ?_ | refine g_sliceNil stp_list ?_) <;> refine put_in ?_) | ((first | refine g_alloc stp_list own_st hS ?_ | refine g_box stp_list own_st hS ?_ | refine g_build0 stp_list own_st hS ?_ | refine g_build stp_list own_st hS ?_ | refine g_make stp_list own_st hS ?_); clear hS; intro b w hS; refine put_in ?_) | ((first | refine g_store1 stp_list own_st hS ?_ | refine g_storeR stp_list own_st hS ?_); clear hS; intro w hS; refine put_in ?_)) | ((fail_if_success (with_reducible refine cons_list ?_)); first | go_step | go_step3 | rw [Exit.noGoto_normal] | rw [Exit.noGoto_ret] | rw [Exit.noGoto_exit]))
          go_roundw
          case rel => exact ⟨j + 1, by omega, by push_cast; rfl, by rw [Nat.succ_mul], by rw [Nat.succ_mul]; exact hS⟩
          case measure => first | (simp [intOf]; done) | (simp [intOf]; omega)
    · obtain rfl : j = 6 := by omega
      obtain ⟨f1, f2⟩ := hXf (6 * n)
      obtain ⟨A, hA⟩ : ∃ A, A = (X (6 * n)).1 := ⟨_, rfl⟩
      obtain ⟨R, hRr⟩ : ∃ R, R = (X (6 * n)).2 := ⟨_, rfl⟩
      rw [← hA, ← hRr] at hS hXe
      rw [← hA] at f1
      rw [← hRr] at f2
      have hR0 : R ≠ [] := by rintro rfl; simp at f2; omega
      repeat' (first | ((with_reducible refine cons_list ?_); first | ((first | refine g_skip stp_list ?_ | refine g_move stp_list ?_ | refine g_assign stp_list ?_ | refine g_load1 stp_list own_st hS ?_ | refine g_loadR stp_list own_st hS ?_ | refine g_indexAddr stp_list ?_ | refine g_indexAddrA stp_list ?_ | refine g_len stp_list ?_ | refine g_cap stp_list ?_ | refine g_extract stp_list ?_ | refine g_add stp_list ?_ | refine g_sub stp_list ?_ | refine g_mul stp_list ?_ | refine g_quo stp_list ?_ | refine g_rem stp_list ?_ | refine g_cmp_t stp_list ?_ | refine g_cmp_f stp_list ?_ | refine g_cmp stp_list (fun hc => ?_) (fun hc => ?_) | refine g_neqNil stp_list ?_ | refine g_neqNil0 stp_list ?_ | refine g_eqlNil stp_list ?_ | refine g_eqlNil0 stp_list ?_ | refine g_fieldAddr stp_list ?_ | refine g_field1 stp_list ?_ | refine g_fieldR stp_list ?_ | refine g_eqlSlNil stp_list ?_ | refine g_neqSlNil stp_list ?_ | refine g_makeInterface stp_list ?_ | refine g_makeFunc stp_list ?_ | refine g_conv stp_list ?_ | refine g_pick stp_list ?_ | refine g_not stp_list ?_ | refine g_slice stp_list ?_ | refine g_sliceA stp_list ?_ | refine g_sliceNil stp_list ?_) <;> refine put_in ?_) | ((first | refine g_alloc stp_list own_st hS ?_ | refine g_box stp_list own_st hS ?_ | refine g_build0 stp_list own_st hS ?_ | refine g_build stp_list own_st hS ?_ | refine g_make stp_list own_st hS ?_); clear hS; intro b w hS; refine put_in ?_) | ((first | refine g_store1 stp_list own_st hS ?_ | refine g_storeR stp_list own_st hS ?_); clear hS; intro w hS; refine put_in ?_)) | ((fail_if_success (with_reducible refine cons_list ?_)); first | go_step | go_step3 | rw [Exit.noGoto_normal] | rw [Exit.noGoto_ret] | rw [Exit.noGoto_exit]))
      refine s_append stp_list own_st hS (by rfl) (by rfl) (by rfl) (by rfl) (by infer_instance) (by exact at_ 1 rfl) (cs := bvs A) (olds := A.map bv) (spare := []) (by unfold bvs; simp) (by rw [List.length_map, f1]) (by omega) (by rfl) (bytesAt_mid (pre := []) (post := spo) (off := 0) (n := l.length) (c := co) (own_st.blk 0 hS rfl) rfl rfl (by rw [f2, HN.out]) (by omega)).srcs (by rw [List.length_map, f2, HN.out, Nat.mul_one]) (bv_one R) (by unfold maxLen; omega) (by (try conv => lhs; simp only [Int.toNat_natCast, Int.toNat_zero, Int.toNat_one, Int.reduceToNat, Int.toNat_natCast_add_one, Int.ofNat_eq_natCast, Nat.mul_one, Nat.one_mul, Nat.zero_add, Nat.add_zero, Nat.sub_zero, Nat.zero_mul, Nat.reduceAdd, Nat.reduceMul, Nat.reduceSub]); first | done | rfl) ?_
      clear hS
      intro g c sp w9 h1 h2 h3 hS
      refine put_in ?_
      repeat' (first | ((with_reducible refine cons_list ?_); first | ((first | refine g_skip stp_list ?_ | refine g_move stp_list ?_ | refine g_assign stp_list ?_ | refine g_load1 stp_list own_st hS ?_ | refine g_loadR stp_list own_st hS ?_ | refine g_indexAddr stp_list ?_ | refine g_indexAddrA stp_list ?_ | refine g_len stp_list ?_ | refine g_cap stp_list ?_ | refine g_extract stp_list ?_ | refine g_add stp_list ?_ | refine g_sub stp_list ?_ | refine g_mul stp_list ?_ | refine g_quo stp_list ?_ | refine g_rem stp_list ?_ | refine g_cmp_t stp_list ?_ | refine g_cmp_f stp_list ?_ | refine g_cmp stp_list (fun hc => ?_) (fun hc => ?_) | refine g_neqNil stp_list ?_ | refine g_neqNil0 stp_list ?_ | refine g_eqlNil stp_list ?_ | refine g_eqlNil0 stp_list ?_ | refine g_fieldAddr stp_list ?_ | refine g_field1 stp_list ?_ | refine g_fieldR stp_list ?_ | refine g_eqlSlNil stp_list ?_ | refine g_neqSlNil stp_list ?_ | refine g_makeInterface stp_list ?_ | refine g_makeFunc stp_list ?_ | refine g_conv stp_list ?_ | refine g_pick stp_list ?_ | refine g_not stp_list ?_ | refine g_slice stp_list ?_ | refine g_sliceA stp_list ?_ | refine g_sliceNil stp_list ?_) <;> refine put_in ?_) | ((first | refine g_alloc stp_list own_st hS ?_ | refine g_box stp_list own_st hS ?_ | refine g_build0 stp_list own_st hS ?_ | refine g_build stp_list own_st hS ?_ | refine g_make stp_list own_st hS ?_); clear hS; intro b w hS; refine put_in ?_) | ((first | refine g_store1 stp_list own_st hS ?_ | refine g_storeR stp_list own_st hS ?_); clear hS; intro w hS; refine put_in ?_)) | ((fail_if_success (with_reducible refine cons_list ?_)); first | go_step | go_step3 | rw [Exit.noGoto_normal] | rw [Exit.noGoto_ret] | rw [Exit.noGoto_exit]))
      go_ret2
      refine ⟨g, c, sp, by rw [Nat.add_comm]; rfl, by omega, Nat.le_trans hB.size (hS.2.1 _ (List.mem_cons_self ..)).1, ?_, hB.trans (hS.below.mono hB.size)⟩
      rw [hXe, List.map_append]
      exact hS.blk 0 rfl
end Go.Proofs.Ytkfggilildiflab
