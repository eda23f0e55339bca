/-
  The law ResvEnds: for all operations and every number it answers true. No condition.
-/
import Derived.Test.YtknkkcbihaojhacRows
import Derived.Lib.MinMax
import Derived.Test.YtknkkcbihaojhacJG0

namespace Go.Proofs.Ytknkkcbihaojhac
open Go.ChangeShapes Go.WideShapes Go.ChangeAt Go.RowKit
attribute [local irreducible] wpList wpListIn Oper.quietAt wpM
theorem is_same (n : Int) (w0 : World) : Calls Try.prog 17 #[errV n, .int .i64 n] w0 fun e w' => e = .returned (.bool true) ∧ Below w0.heap.size w0 w' := by
  have hS := St.start w0
  go_enter Try.func17, Try.ntmps17
  repeat' (first | ((with_reducible refine cons_list ?_); first | ((first | refine g_skip stp_list ?_ | refine g_move stp_list ?_ | refine g_assign stp_list ?_ | refine g_load1 stp_list own_st hS ?_ | refine g_loadR stp_list own_st hS ?_ | refine g_indexAddr stp_list ?_ | refine g_indexAddrA stp_list ?_ | refine g_len stp_list ?_ | refine g_cap stp_list ?_ | refine g_extract stp_list ?_ | refine g_add stp_list ?_ | refine g_sub stp_list ?_ | refine g_mul stp_list ?_ | refine g_quo stp_list ?_ | refine g_rem stp_list ?_ | refine g_cmp_t stp_list ?_ | refine g_cmp_f stp_list ?_ | refine g_cmp stp_list (fun hc => ?_) (fun hc => ?_) | refine g_neqNil stp_list ?_ | refine g_neqNil0 stp_list ?_ | refine g_eqlNil stp_list ?_ | refine g_eqlNil0 stp_list ?_ | refine g_fieldAddr stp_list ?_ | refine g_field1 stp_list ?_ | refine g_fieldR stp_list ?_ | refine g_eqlSlNil stp_list ?_ | refine g_neqSlNil stp_list ?_ | refine g_makeInterface stp_list ?_ | refine g_makeFunc stp_list ?_ | refine g_conv stp_list ?_ | refine g_pick stp_list ?_ | refine g_not stp_list ?_ | refine g_slice stp_list ?_ | refine g_sliceA stp_list ?_ | refine g_sliceNil stp_list ?_) <;> refine put_in ?_) | ((first | refine g_alloc stp_list own_st hS ?_ | refine g_box stp_list own_st hS ?_ | refine g_build0 stp_list own_st hS ?_ | refine g_build stp_list own_st hS ?_ | refine g_make stp_list own_st hS ?_); clear hS; intro b w hS; refine put_in ?_) | ((first | refine g_store1 stp_list own_st hS ?_ | refine g_storeR stp_list own_st hS ?_); clear hS; intro w hS; refine put_in ?_) | (refine g_callq stp_list own_st hS (num_errV _ _) ?_; clear hS; intro w hS; refine put_in ?_)) | ((fail_if_success (with_reducible refine cons_list ?_)); first | go_step | go_step3 | rw [Exit.noGoto_normal] | rw [Exit.noGoto_ret] | rw [Exit.noGoto_exit]))
  go_ret
  exact ⟨rfl, hS.below⟩
theorem r_maxZ {P : Program} {o : Oper} {a : Act} {w : World} {ts : Array TypeId} {x y : Operand} {k k' : IntKind} {m n q : Int} (hop : o.op = .call { callee := .builtin .max, args := #[x, y], argTypes := ts }) (hx : evO a x = some (.int k m)) (hy : evO a y = some (.int k' n)) (hq : max m n = q) : (execOp a.eval o).run P w = .ok (.value (.int k q)) w := by
  unfold execOp; rw [hop]; subst hq
  have e1 : #[x, y].map a.eval = #[.int k m, .int k' n] := by simp [evO_eval hx, evO_eval hy]
  simp only [resolve, Sem.run_bind, Sem.run_pure, Result.andThen_ok, invoke, builtin, e1, Go.Lib.run_max_ints]
theorem ends_x {l : List Rg} {h t g who : Int} {s : Bool} (hl : okL l) (hk : keyOf l who ≠ 0) :
    keyOf (endR ⟨l, h, t, s, g⟩ fun y => y.1 == who).regs who = 0 ∧ (endR ⟨l, h, t, s, g⟩ fun y => y.1 == who).holder ≠ who ∧ (h = who → ¬ (5 ≤ t ∧ 1 < l.length) → (endR ⟨l, h, t, s, g⟩ fun y => y.1 == who).holder = -1) := by
  have hw : 0 ≤ who := by
    have h1 := at_idx hl ((keyOf_has who hl).2 hk)
    exact (okL_mem hl _ (List.mem_of_getElem? h1)).1
  have h0 : keyOf (l.filter fun y => !(y.1 == who)) who = 0 := keyOf_none (by
    unfold hasR
    rw [Bool.eq_false_iff]
    intro ha
    obtain ⟨y, hy, he⟩ := List.any_eq_true.1 ha
    have := (List.mem_filter.1 hy).2
    rw [he] at this
    exact absurd this (by decide))
  refine ⟨by rw [endR_regs]; exact h0, ?_, ?_⟩
  · unfold endR
    dsimp only
    split
    · next hc =>
      split
      · next y m e =>
        have hy : y.1 ≠ who := fun he => by
          have hm : y ∈ l.filter fun y => !(y.1 == who) := by rw [e]; exact List.mem_cons_self ..
          have := (List.mem_filter.1 hm).2
          rw [he] at this
          simp at this
        split
        · exact hy
        · show (-1 : Int) ≠ who
          omega
      · show (-1 : Int) ≠ who
        omega
    · next hc =>
      show h ≠ who
      intro he
      subst he
      exact hc ⟨by omega, h0⟩
  · intro he hn
    subst he
    unfold endR
    dsimp only
    rw [if_pos ⟨by omega, h0⟩]
    split
    · next y m e =>
      split
      · next ht =>
        exfalso
        refine hn ⟨ht, ?_⟩
        have hin := List.mem_of_getElem? (at_idx hl ((keyOf_has h hl).2 hk))
        have hym : y ∈ l.filter fun y => !(y.1 == h) := by rw [e]; exact List.mem_cons_self ..
        have hy := List.mem_filter.1 hym
        match l, hin, hy.1 with
        | [z], h1, h2 =>
          rw [List.mem_singleton] at h1 h2
          rw [h2, ← h1] at hy
          simp at hy
        | _ :: _ :: _, _, _ => simp
      · rfl
    · rfl
theorem clear_do {l : List Rg} {h t g who K : Int} {s : Bool} (hG : goodR ⟨l, h, t, s, g⟩) (hK : keyOf l who = K) (hk : ¬ K = 0) : doR ⟨l, h, t, s, g⟩ ⟨4, who, K, 0, 0, false⟩ = (⟨[], -1, 0, s, wrap64 (g + 1)⟩, 0) := by
  have hw : 0 ≤ who ∧ 1 ≤ K := by
    have h1 := at_idx hG.2.1 ((keyOf_has who hG.2.1).2 (by rw [hK]; exact hk))
    have := okL_mem hG.2.1 _ (List.mem_of_getElem? h1)
    rw [hK] at this
    exact this
  unfold doR
  rw [if_neg (fun hh => hh ⟨hG, by unfold soundR; simp; omega⟩), if_neg (fun hh => hh (by unfold knowsR; simp; rw [hK]; exact ⟨hk, rfl⟩))]
  rfl
theorem clear_none {l : List Rg} {h t g who : Int} {s : Bool} (hG : goodR ⟨l, h, t, s, g⟩) (hK : keyOf l who = 0) (hw : 0 ≤ who) : doR ⟨l, h, t, s, g⟩ ⟨4, who, 1, 0, 0, false⟩ = (nobody, 9) := by
  unfold doR
  rw [if_neg (fun hh => hh ⟨hG, by unfold soundR; simp; omega⟩), if_pos (fun hh => by unfold knowsR at hh; simp at hh; exact hh.1 hK)]
theorem end_do {l : List Rg} {h t g who K : Int} {s : Bool} (hG : goodR ⟨l, h, t, s, g⟩) (hK : keyOf l who = K) (hk : ¬ K = 0) : doR ⟨l, h, t, s, g⟩ ⟨1, who, K, 0, 0, s⟩ = ({ endR ⟨l, h, t, s, g⟩ (fun y => y.1 == who) with stays := s, gen := wrap64 (g + 1) }, 0) := by
  have hw : 0 ≤ who ∧ 1 ≤ K := by
    have h1 := at_idx hG.2.1 ((keyOf_has who hG.2.1).2 (by rw [hK]; exact hk))
    have := okL_mem hG.2.1 _ (List.mem_of_getElem? h1)
    rw [hK] at this
    exact this
  unfold doR
  rw [if_neg (fun hh => hh ⟨hG, by unfold soundR; simp; omega⟩), if_neg (fun hh => hh (by unfold knowsR; simp; exact hK))]
  rfl
set_option maxRecDepth 100000 in
set_option maxHeartbeats 8000000 in
theorem resvEnds_any (l : List Ro) (who : Int) (v : Value) (w0 : World) (hv : OpsAt w0 v l) (hm : l.length ≤ 9223372036854775807) :
    Calls Try.prog 7 #[v, .int .i64 who] w0 fun e w' => e = .returned (.bool true) ∧ Below w0.heap.size w0 w' := by
  obtain ⟨x, hx⟩ : ∃ x, runR nobody l = x := ⟨_, rfl⟩
  have hS := St.start w0
  obtain ⟨F, hF⟩ : ∃ F, decide (l.length ≤ 200) = F := ⟨_, rfl⟩
  have hrun := run_any l v
  rw [hF] at hrun
  cases F with
  | false =>
    go_enter Try.func7, Try.ntmps7
    repeat' (first | ((with_reducible refine cons_list ?_); first | ((first | refine g_skip stp_list ?_ | refine g_move stp_list ?_ | refine g_assign stp_list ?_ | refine g_load1 stp_list own_st hS ?_ | refine g_loadR stp_list own_st hS ?_ | refine g_indexAddr stp_list ?_ | refine g_indexAddrA stp_list ?_ | refine g_len stp_list ?_ | refine g_cap stp_list ?_ | refine g_extract stp_list ?_ | refine g_add stp_list ?_ | refine g_sub stp_list ?_ | refine g_mul stp_list ?_ | refine g_quo stp_list ?_ | refine g_rem stp_list ?_ | refine g_cmp_t stp_list ?_ | refine g_cmp_f stp_list ?_ | refine g_cmp stp_list (fun hc => ?_) (fun hc => ?_) | refine g_neqNil stp_list ?_ | refine g_neqNil0 stp_list ?_ | refine g_eqlNil stp_list ?_ | refine g_eqlNil0 stp_list ?_ | refine g_fieldAddr stp_list ?_ | refine g_field1 stp_list ?_ | refine g_fieldR stp_list ?_ | refine g_eqlSlNil stp_list ?_ | refine g_neqSlNil stp_list ?_ | refine g_makeInterface stp_list ?_ | refine g_makeFunc stp_list ?_ | refine g_conv stp_list ?_ | refine g_pick stp_list ?_ | refine g_not stp_list ?_ | refine g_slice stp_list ?_ | refine g_sliceA stp_list ?_ | refine g_sliceNil stp_list ?_ | refine g_nilCheck stp_list ?_ | refine g_builtS stp_list ?_ | refine g_builtA stp_list ?_) <;> refine put_in ?_) | ((first | refine g_alloc stp_list own_st hS ?_ | refine g_box stp_list own_st hS ?_ | refine g_build0 stp_list own_st hS ?_ | refine g_build stp_list own_st hS ?_ | refine g_make stp_list own_st hS ?_); clear hS; intro b w hS; refine put_in ?_) | ((first | refine g_store1 stp_list own_st hS ?_ | refine g_storeR stp_list own_st hS ?_ | refine g_storeRO stp_list own_st hS ?_); clear hS; intro w hS; refine put_in ?_) | (refine g_callq stp_list own_st hS (alive_any _) ?_; clear hS; intro w hS; refine put_in ?_)) | ((fail_if_success (with_reducible refine cons_list ?_)); first | go_step | go_step3 | rw [Exit.noGoto_normal] | rw [Exit.noGoto_ret] | rw [Exit.noGoto_exit]))
    refine s_call stp_list (by rfl) (by rfl) (by rfl) (by rfl) (by rfl) (by infer_instance) (hrun _ (hv.below hS.below) hm x hx) ?_
    rintro e w1 ⟨sv, rfl, ho, hB⟩
    obtain ⟨p1, c1, rfl⟩ := ho.slice
    refine ⟨_, rfl, ?_⟩
    refine put_in ?_
    replace hS := own_st.call hS hB
    clear ho hB
    repeat' (first | ((with_reducible refine cons_list ?_); first | ((first | refine g_skip stp_list ?_ | refine g_move stp_list ?_ | refine g_assign stp_list ?_ | refine g_load1 stp_list own_st hS ?_ | refine g_loadR stp_list own_st hS ?_ | refine g_indexAddr stp_list ?_ | refine g_indexAddrA stp_list ?_ | refine g_len stp_list ?_ | refine g_cap stp_list ?_ | refine g_extract stp_list ?_ | refine g_add stp_list ?_ | refine g_sub stp_list ?_ | refine g_mul stp_list ?_ | refine g_quo stp_list ?_ | refine g_rem stp_list ?_ | refine g_cmp_t stp_list ?_ | refine g_cmp_f stp_list ?_ | refine g_cmp stp_list (fun hc => ?_) (fun hc => ?_) | refine g_neqNil stp_list ?_ | refine g_neqNil0 stp_list ?_ | refine g_eqlNil stp_list ?_ | refine g_eqlNil0 stp_list ?_ | refine g_fieldAddr stp_list ?_ | refine g_field1 stp_list ?_ | refine g_fieldR stp_list ?_ | refine g_eqlSlNil stp_list ?_ | refine g_neqSlNil stp_list ?_ | refine g_makeInterface stp_list ?_ | refine g_makeFunc stp_list ?_ | refine g_conv stp_list ?_ | refine g_pick stp_list ?_ | refine g_not stp_list ?_ | refine g_slice stp_list ?_ | refine g_sliceA stp_list ?_ | refine g_sliceNil stp_list ?_ | refine g_nilCheck stp_list ?_ | refine g_builtS stp_list ?_ | refine g_builtA stp_list ?_) <;> refine put_in ?_) | ((first | refine g_alloc stp_list own_st hS ?_ | refine g_box stp_list own_st hS ?_ | refine g_build0 stp_list own_st hS ?_ | refine g_build stp_list own_st hS ?_ | refine g_make stp_list own_st hS ?_); clear hS; intro b w hS; refine put_in ?_) | ((first | refine g_store1 stp_list own_st hS ?_ | refine g_storeR stp_list own_st hS ?_ | refine g_storeRO stp_list own_st hS ?_); clear hS; intro w hS; refine put_in ?_)) | ((fail_if_success (with_reducible refine cons_list ?_)); first | go_step | go_step3 | rw [Exit.noGoto_normal] | rw [Exit.noGoto_ret] | rw [Exit.noGoto_exit]))
    go_ret
    exact ⟨rfl, hS.below⟩
  | true =>
    have h200 := of_decide_eq_true hF
    have hG : goodR x := by
      rw [← hx]; exact (run_good (k := 0) good_nobody (by decide) (by omega)).1
    obtain ⟨rl, h, t, s, g⟩ := x
    have hok : okL rl := hG.2.1
    have h4 : rl.length ≤ 4 := hG.1.1
    obtain ⟨K, hK⟩ : ∃ K, keyOf rl who = K := ⟨_, rfl⟩
    go_enter Try.func7, Try.ntmps7
    repeat' (first | ((with_reducible refine cons_list ?_); first | ((first | refine g_skip stp_list ?_ | refine g_move stp_list ?_ | refine g_assign stp_list ?_ | refine g_load1 stp_list own_st hS ?_ | refine g_loadR stp_list own_st hS ?_ | refine g_indexAddr stp_list ?_ | refine g_indexAddrA stp_list ?_ | refine g_len stp_list ?_ | refine g_cap stp_list ?_ | refine g_extract stp_list ?_ | refine g_add stp_list ?_ | refine g_sub stp_list ?_ | refine g_mul stp_list ?_ | refine g_quo stp_list ?_ | refine g_rem stp_list ?_ | refine g_cmp_t stp_list ?_ | refine g_cmp_f stp_list ?_ | refine g_cmp stp_list (fun hc => ?_) (fun hc => ?_) | refine g_neqNil stp_list ?_ | refine g_neqNil0 stp_list ?_ | refine g_eqlNil stp_list ?_ | refine g_eqlNil0 stp_list ?_ | refine g_fieldAddr stp_list ?_ | refine g_field1 stp_list ?_ | refine g_fieldR stp_list ?_ | refine g_eqlSlNil stp_list ?_ | refine g_neqSlNil stp_list ?_ | refine g_makeInterface stp_list ?_ | refine g_makeFunc stp_list ?_ | refine g_conv stp_list ?_ | refine g_pick stp_list ?_ | refine g_not stp_list ?_ | refine g_slice stp_list ?_ | refine g_sliceA stp_list ?_ | refine g_sliceNil stp_list ?_ | refine g_nilCheck stp_list ?_ | refine g_builtS stp_list ?_ | refine g_builtA stp_list ?_) <;> refine put_in ?_) | ((first | refine g_alloc stp_list own_st hS ?_ | refine g_box stp_list own_st hS ?_ | refine g_build0 stp_list own_st hS ?_ | refine g_build stp_list own_st hS ?_ | refine g_make stp_list own_st hS ?_); clear hS; intro b w hS; refine put_in ?_) | ((first | refine g_store1 stp_list own_st hS ?_ | refine g_storeR stp_list own_st hS ?_ | refine g_storeRO stp_list own_st hS ?_); clear hS; intro w hS; refine put_in ?_) | (refine g_callq stp_list own_st hS (alive_any _) ?_; clear hS; intro w hS; refine put_in ?_)) | ((fail_if_success (with_reducible refine cons_list ?_)); first | go_step | go_step3 | rw [Exit.noGoto_normal] | rw [Exit.noGoto_ret] | rw [Exit.noGoto_exit]))
    refine s_call stp_list (by rfl) (by rfl) (by rfl) (by rfl) (by rfl) (by infer_instance) (hrun _ (hv.below hS.below) hm _ hx) ?_
    rintro e w1 ⟨sv, rfl, ho, hB⟩
    obtain ⟨p1, c1, rfl⟩ := ho.slice
    refine ⟨_, rfl, ?_⟩
    refine put_in ?_
    obtain ⟨Lr, hR, hS2⟩ := ho.join hS hB
    simp only [List.cons_append, List.nil_append] at hS2
    replace hS := hS2
    clear hS2 ho hB
    by_cases hk : K = 0
    · obtain ⟨m, hmx⟩ : ∃ m, max who 0 = m := ⟨_, rfl⟩
      repeat' (first | ((with_reducible refine cons_list ?_); first | ((first | refine g_skip stp_list ?_ | refine g_move stp_list ?_ | refine g_assign stp_list ?_ | refine g_load1 stp_list own_st hS ?_ | refine g_loadR stp_list own_st hS ?_ | refine g_indexAddr stp_list ?_ | refine g_indexAddrA stp_list ?_ | refine g_len stp_list ?_ | refine g_cap stp_list ?_ | refine g_extract stp_list ?_ | refine g_add stp_list ?_ | refine g_sub stp_list ?_ | refine g_mul stp_list ?_ | refine g_quo stp_list ?_ | refine g_rem stp_list ?_ | refine g_cmp_t stp_list ?_ | refine g_cmp_f stp_list ?_ | refine g_cmp stp_list (fun hc => ?_) (fun hc => ?_) | refine g_neqNil stp_list ?_ | refine g_neqNil0 stp_list ?_ | refine g_eqlNil stp_list ?_ | refine g_eqlNil0 stp_list ?_ | refine g_fieldAddr stp_list ?_ | refine g_field1 stp_list ?_ | refine g_fieldR stp_list ?_ | refine g_eqlSlNil stp_list ?_ | refine g_neqSlNil stp_list ?_ | refine g_makeInterface stp_list ?_ | refine g_makeFunc stp_list ?_ | refine g_conv stp_list ?_ | refine g_pick stp_list ?_ | refine g_not stp_list ?_ | refine g_slice stp_list ?_ | refine g_sliceA stp_list ?_ | refine g_sliceNil stp_list ?_ | refine g_nilCheck stp_list ?_ | refine g_builtS stp_list ?_ | refine g_builtA stp_list ?_) <;> refine put_in ?_) | ((first | refine g_alloc stp_list own_st hS ?_ | refine g_box stp_list own_st hS ?_ | refine g_build0 stp_list own_st hS ?_ | refine g_build stp_list own_st hS ?_ | refine g_make stp_list own_st hS ?_); clear hS; intro b w hS; refine put_in ?_) | ((first | refine g_store1 stp_list own_st hS ?_ | refine g_storeR stp_list own_st hS ?_ | refine g_storeRO stp_list own_st hS ?_); clear hS; intro w hS; refine put_in ?_) | (refine g_callq stp_list own_st hS (key_c hK _ _ _ _ _ _ (hR.inn hS (by intro x hx; simp [hx])) (by omega)) ?_; clear hS; intro w hS; refine put_in ?_) | (refine Stp.go stp_list (by rfl) (by rfl) (r_maxZ (by rfl) (by rfl) (by rfl) hmx) ?_; refine put_in ?_)) | ((fail_if_success (with_reducible refine cons_list ?_)); first | go_step | go_step3 | rw [Exit.noGoto_normal] | rw [Exit.noGoto_ret] | rw [Exit.noGoto_exit]))
      obtain ⟨y, er, hy⟩ : ∃ y er, doR ⟨rl, h, t, s, g⟩ ⟨4, m, 1, 0, 0, false⟩ = (y, er) := ⟨_, _, rfl⟩
      refine s_call stp_list (by rfl) (by rfl) (by rfl) (by rfl) (by rfl) (by infer_instance) (do_c (st := false) hy _ _ (hR.inn hS (by intro x hx; simp [hx])) (by omega)) ?_
      rintro e w2 ⟨sv2, rfl, ho, hB⟩
      obtain ⟨p2, c2, rfl⟩ := ho.slice
      refine ⟨_, rfl, ?_⟩
      refine put_in ?_
      obtain ⟨Lr2, hR2, hS2⟩ := ho.join hS hB
      simp only [List.cons_append, List.nil_append] at hS2
      replace hS := hS2
      clear hS2 ho hB
      by_cases hw : who < 0
      · repeat' (first | ((with_reducible refine cons_list ?_); first | ((first | refine g_skip stp_list ?_ | refine g_move stp_list ?_ | refine g_assign stp_list ?_ | refine g_load1 stp_list own_st hS ?_ | refine g_loadR stp_list own_st hS ?_ | refine g_indexAddr stp_list ?_ | refine g_indexAddrA stp_list ?_ | refine g_len stp_list ?_ | refine g_cap stp_list ?_ | refine g_extract stp_list ?_ | refine g_add stp_list ?_ | refine g_sub stp_list ?_ | refine g_mul stp_list ?_ | refine g_quo stp_list ?_ | refine g_rem stp_list ?_ | refine g_cmp_t stp_list ?_ | refine g_cmp_f stp_list ?_ | refine g_cmp stp_list (fun hc => ?_) (fun hc => ?_) | refine g_neqNil stp_list ?_ | refine g_neqNil0 stp_list ?_ | refine g_eqlNil stp_list ?_ | refine g_eqlNil0 stp_list ?_ | refine g_fieldAddr stp_list ?_ | refine g_field1 stp_list ?_ | refine g_fieldR stp_list ?_ | refine g_eqlSlNil stp_list ?_ | refine g_neqSlNil stp_list ?_ | refine g_makeInterface stp_list ?_ | refine g_makeFunc stp_list ?_ | refine g_conv stp_list ?_ | refine g_pick stp_list ?_ | refine g_not stp_list ?_ | refine g_slice stp_list ?_ | refine g_sliceA stp_list ?_ | refine g_sliceNil stp_list ?_ | refine g_nilCheck stp_list ?_ | refine g_builtS stp_list ?_ | refine g_builtA stp_list ?_) <;> refine put_in ?_) | ((first | refine g_alloc stp_list own_st hS ?_ | refine g_box stp_list own_st hS ?_ | refine g_build0 stp_list own_st hS ?_ | refine g_build stp_list own_st hS ?_ | refine g_make stp_list own_st hS ?_); clear hS; intro b w hS; refine put_in ?_) | ((first | refine g_store1 stp_list own_st hS ?_ | refine g_storeR stp_list own_st hS ?_ | refine g_storeRO stp_list own_st hS ?_); clear hS; intro w hS; refine put_in ?_)) | ((fail_if_success (with_reducible refine cons_list ?_)); first | go_step | go_step3 | rw [Exit.noGoto_normal] | rw [Exit.noGoto_ret] | rw [Exit.noGoto_exit]))
        go_ret
        exact ⟨rfl, hS.below⟩
      · have hmw : m = who := by rw [← hmx]; omega
        subst hmw
        rw [clear_none hG (by rw [hK]; exact hk) (by omega)] at hy
        obtain ⟨rfl, rfl⟩ := Prod.mk.inj hy
        repeat' (first | ((with_reducible refine cons_list ?_); first | ((first | refine g_skip stp_list ?_ | refine g_move stp_list ?_ | refine g_assign stp_list ?_ | refine g_load1 stp_list own_st hS ?_ | refine g_loadR stp_list own_st hS ?_ | refine g_indexAddr stp_list ?_ | refine g_indexAddrA stp_list ?_ | refine g_len stp_list ?_ | refine g_cap stp_list ?_ | refine g_extract stp_list ?_ | refine g_add stp_list ?_ | refine g_sub stp_list ?_ | refine g_mul stp_list ?_ | refine g_quo stp_list ?_ | refine g_rem stp_list ?_ | refine g_cmp_t stp_list ?_ | refine g_cmp_f stp_list ?_ | refine g_cmp stp_list (fun hc => ?_) (fun hc => ?_) | refine g_neqNil stp_list ?_ | refine g_neqNil0 stp_list ?_ | refine g_eqlNil stp_list ?_ | refine g_eqlNil0 stp_list ?_ | refine g_fieldAddr stp_list ?_ | refine g_field1 stp_list ?_ | refine g_fieldR stp_list ?_ | refine g_eqlSlNil stp_list ?_ | refine g_neqSlNil stp_list ?_ | refine g_makeInterface stp_list ?_ | refine g_makeFunc stp_list ?_ | refine g_conv stp_list ?_ | refine g_pick stp_list ?_ | refine g_not stp_list ?_ | refine g_slice stp_list ?_ | refine g_sliceA stp_list ?_ | refine g_sliceNil stp_list ?_ | refine g_nilCheck stp_list ?_ | refine g_builtS stp_list ?_ | refine g_builtA stp_list ?_) <;> refine put_in ?_) | ((first | refine g_alloc stp_list own_st hS ?_ | refine g_box stp_list own_st hS ?_ | refine g_build0 stp_list own_st hS ?_ | refine g_build stp_list own_st hS ?_ | refine g_make stp_list own_st hS ?_); clear hS; intro b w hS; refine put_in ?_) | ((first | refine g_store1 stp_list own_st hS ?_ | refine g_storeR stp_list own_st hS ?_ | refine g_storeRO stp_list own_st hS ?_); clear hS; intro w hS; refine put_in ?_) | (refine g_callq stp_list own_st hS (is_same 9 _) ?_; clear hS; intro w hS; refine put_in ?_)) | ((fail_if_success (with_reducible refine cons_list ?_)); first | go_step | go_step3 | rw [Exit.noGoto_normal] | rw [Exit.noGoto_ret] | rw [Exit.noGoto_exit]))
        go_ret
        exact ⟨rfl, hS.below⟩
    · have hc := clear_do hG hK hk
      have hd := end_do hG hK hk
      obtain ⟨e1, e2, e3⟩ := ends_x (h := h) (t := t) (g := g) (s := s) hok (by rw [hK]; exact hk)
      have el : (endR ⟨rl, h, t, s, g⟩ fun y => y.1 == who).regs.length ≤ 4 := by
        rw [endR_regs]; exact Nat.le_trans (List.length_filter_le ..) h4
      obtain ⟨⟨yl, yh, yt, ys, yg⟩, hy⟩ : ∃ y, (endR ⟨rl, h, t, s, g⟩ fun y => y.1 == who) = y := ⟨_, rfl⟩
      rw [hy] at hd e1 e2 e3 el
      dsimp only at hd e1 e2 e3 el
      clear hy
      have hal : decide (allowedP ⟨[], -1, 0, s, wrap64 (g + 1)⟩ (wrap64 (who + 1)) 2) = true := decide_eq_true ⟨.inr rfl, .inl rfl⟩
      repeat' (first | ((with_reducible refine cons_list ?_); first | ((first | refine g_skip stp_list ?_ | refine g_move stp_list ?_ | refine g_assign stp_list ?_ | refine g_load1 stp_list own_st hS ?_ | refine g_loadR stp_list own_st hS ?_ | refine g_indexAddr stp_list ?_ | refine g_indexAddrA stp_list ?_ | refine g_len stp_list ?_ | refine g_cap stp_list ?_ | refine g_extract stp_list ?_ | refine g_add stp_list ?_ | refine g_sub stp_list ?_ | refine g_mul stp_list ?_ | refine g_quo stp_list ?_ | refine g_rem stp_list ?_ | refine g_cmp_t stp_list ?_ | refine g_cmp_f stp_list ?_ | refine g_cmp stp_list (fun hc => ?_) (fun hc => ?_) | refine g_neqNil stp_list ?_ | refine g_neqNil0 stp_list ?_ | refine g_eqlNil stp_list ?_ | refine g_eqlNil0 stp_list ?_ | refine g_fieldAddr stp_list ?_ | refine g_field1 stp_list ?_ | refine g_fieldR stp_list ?_ | refine g_eqlSlNil stp_list ?_ | refine g_neqSlNil stp_list ?_ | refine g_makeInterface stp_list ?_ | refine g_makeFunc stp_list ?_ | refine g_conv stp_list ?_ | refine g_pick stp_list ?_ | refine g_not stp_list ?_ | refine g_slice stp_list ?_ | refine g_sliceA stp_list ?_ | refine g_sliceNil stp_list ?_ | refine g_nilCheck stp_list ?_ | refine g_builtS stp_list ?_ | refine g_builtA stp_list ?_) <;> refine put_in ?_) | ((first | refine g_alloc stp_list own_st hS ?_ | refine g_box stp_list own_st hS ?_ | refine g_build0 stp_list own_st hS ?_ | refine g_build stp_list own_st hS ?_ | refine g_make stp_list own_st hS ?_); clear hS; intro b w hS; refine put_in ?_) | ((first | refine g_store1 stp_list own_st hS ?_ | refine g_storeR stp_list own_st hS ?_ | refine g_storeRO stp_list own_st hS ?_); clear hS; intro w hS; refine put_in ?_) | (refine g_callq stp_list own_st hS (key_c hK _ _ _ _ _ _ (hR.inn hS (by intro x hx; simp [hx])) (by omega)) ?_; clear hS; intro w hS; refine put_in ?_)) | ((fail_if_success (with_reducible refine cons_list ?_)); first | go_step | go_step3 | rw [Exit.noGoto_normal] | rw [Exit.noGoto_ret] | rw [Exit.noGoto_exit]))
      refine s_call stp_list (by rfl) (by rfl) (by rfl) (by rfl) (by rfl) (by infer_instance) (do_c (st := false) hc _ _ (hR.inn hS (by intro x hx; simp [hx])) (by omega)) ?_
      rintro e w2 ⟨sv2, rfl, ho, hB⟩
      obtain ⟨p2, c2, rfl⟩ := ho.slice
      refine ⟨_, rfl, ?_⟩
      refine put_in ?_
      obtain ⟨Lr2, hR2, hS2⟩ := ho.join hS hB
      simp only [List.cons_append, List.nil_append] at hS2
      replace hS := hS2
      clear hS2 ho hB
      rw [show errV 0 = .nilIface from rfl]
      obtain ⟨z0, hz0⟩ : ∃ z : Int, (([] : List Rg).length : Int) = z := ⟨_, rfl⟩
      obtain rfl : z0 = 0 := hz0.symm
      repeat' (first | ((with_reducible refine cons_list ?_); first | ((first | refine g_skip stp_list ?_ | refine g_move stp_list ?_ | refine g_assign stp_list ?_ | refine g_load1 stp_list own_st hS ?_ | refine g_loadR stp_list own_st hS ?_ | refine g_indexAddr stp_list ?_ | refine g_indexAddrA stp_list ?_ | refine g_len stp_list ?_ | refine g_cap stp_list ?_ | refine g_extract stp_list ?_ | refine g_add stp_list ?_ | refine g_sub stp_list ?_ | refine g_mul stp_list ?_ | refine g_quo stp_list ?_ | refine g_rem stp_list ?_ | refine g_cmp_t stp_list ?_ | refine g_cmp_f stp_list ?_ | refine g_cmp stp_list (fun hc => ?_) (fun hc => ?_) | refine g_neqNil stp_list ?_ | refine g_neqNil0 stp_list ?_ | refine g_eqlNil stp_list ?_ | refine g_eqlNil0 stp_list ?_ | refine g_fieldAddr stp_list ?_ | refine g_field1 stp_list ?_ | refine g_fieldR stp_list ?_ | refine g_eqlSlNil stp_list ?_ | refine g_neqSlNil stp_list ?_ | refine g_makeInterface stp_list ?_ | refine g_makeFunc stp_list ?_ | refine g_conv stp_list ?_ | refine g_pick stp_list ?_ | refine g_not stp_list ?_ | refine g_slice stp_list ?_ | refine g_sliceA stp_list ?_ | refine g_sliceNil stp_list ?_ | refine g_nilCheck stp_list ?_ | refine g_builtS stp_list ?_ | refine g_builtA stp_list ?_) <;> refine put_in ?_) | ((first | refine g_alloc stp_list own_st hS ?_ | refine g_box stp_list own_st hS ?_ | refine g_build0 stp_list own_st hS ?_ | refine g_build stp_list own_st hS ?_ | refine g_make stp_list own_st hS ?_); clear hS; intro b w hS; refine put_in ?_) | ((first | refine g_store1 stp_list own_st hS ?_ | refine g_storeR stp_list own_st hS ?_ | refine g_storeRO stp_list own_st hS ?_); clear hS; intro w hS; refine put_in ?_) | (refine Stp.go stp_list (by rfl) (by rfl) (r_addW (by rfl) (by rfl) (by rfl) rfl) ?_; refine put_in ?_) | (refine g_callq stp_list own_st hS (allowed_c hal okL_nil (by intro hh; exact absurd rfl hh) _ _ (hR2.inn hS (by intro x hx; simp [hx])) (by decide)) ?_; clear hS; intro w hS; refine put_in ?_)) | ((fail_if_success (with_reducible refine cons_list ?_)); first | go_step | go_step3 | rw [Exit.noGoto_normal] | rw [Exit.noGoto_ret] | rw [Exit.noGoto_exit]))
      refine s_call stp_list (by rfl) (by rfl) (by rfl) (by rfl) (by rfl) (by infer_instance) (do_c (st := s) hd _ _ (hR.inn hS (by intro x hx; simp [hx])) (by omega)) ?_
      rintro e w3 ⟨sv3, rfl, ho, hB⟩
      obtain ⟨p3, c3, rfl⟩ := ho.slice
      refine ⟨_, rfl, ?_⟩
      refine put_in ?_
      obtain ⟨Lr3, hR3, hS2⟩ := ho.join hS hB
      simp only [List.cons_append, List.nil_append] at hS2
      replace hS := hS2
      clear hS2 ho hB
      rw [show errV 0 = .nilIface from rfl]
      by_cases hh : h = who ∧ ¬ (5 ≤ t ∧ 1 < rl.length)
      · obtain rfl := e3 hh.1 hh.2
        repeat' (first | ((with_reducible refine cons_list ?_); first | ((first | refine g_skip stp_list ?_ | refine g_move stp_list ?_ | refine g_assign stp_list ?_ | refine g_load1 stp_list own_st hS ?_ | refine g_loadR stp_list own_st hS ?_ | refine g_indexAddr stp_list ?_ | refine g_indexAddrA stp_list ?_ | refine g_len stp_list ?_ | refine g_cap stp_list ?_ | refine g_extract stp_list ?_ | refine g_add stp_list ?_ | refine g_sub stp_list ?_ | refine g_mul stp_list ?_ | refine g_quo stp_list ?_ | refine g_rem stp_list ?_ | refine g_cmp_t stp_list ?_ | refine g_cmp_f stp_list ?_ | refine g_cmp stp_list (fun hc => ?_) (fun hc => ?_) | refine g_neqNil stp_list ?_ | refine g_neqNil0 stp_list ?_ | refine g_eqlNil stp_list ?_ | refine g_eqlNil0 stp_list ?_ | refine g_fieldAddr stp_list ?_ | refine g_field1 stp_list ?_ | refine g_fieldR stp_list ?_ | refine g_eqlSlNil stp_list ?_ | refine g_neqSlNil stp_list ?_ | refine g_makeInterface stp_list ?_ | refine g_makeFunc stp_list ?_ | refine g_conv stp_list ?_ | refine g_pick stp_list ?_ | refine g_not stp_list ?_ | refine g_slice stp_list ?_ | refine g_sliceA stp_list ?_ | refine g_sliceNil stp_list ?_ | refine g_nilCheck stp_list ?_ | refine g_builtS stp_list ?_ | refine g_builtA stp_list ?_) <;> refine put_in ?_) | ((first | refine g_alloc stp_list own_st hS ?_ | refine g_box stp_list own_st hS ?_ | refine g_build0 stp_list own_st hS ?_ | refine g_build stp_list own_st hS ?_ | refine g_make stp_list own_st hS ?_); clear hS; intro b w hS; refine put_in ?_) | ((first | refine g_store1 stp_list own_st hS ?_ | refine g_storeR stp_list own_st hS ?_ | refine g_storeRO stp_list own_st hS ?_); clear hS; intro w hS; refine put_in ?_) | (refine g_callq stp_list own_st hS (key_c e1 _ _ _ _ _ _ (hR3.inn hS (by intro x hx; simp [hx])) (by omega)) ?_; clear hS; intro w hS; refine put_in ?_)) | ((fail_if_success (with_reducible refine cons_list ?_)); first | go_step | go_step3 | rw [Exit.noGoto_normal] | rw [Exit.noGoto_ret] | rw [Exit.noGoto_exit]))
        all_goals first | (go_ret; exact ⟨rfl, hS.below⟩) | (exfalso; omega)
      · clear e3
        repeat' (first | ((with_reducible refine cons_list ?_); first | ((first | refine g_skip stp_list ?_ | refine g_move stp_list ?_ | refine g_assign stp_list ?_ | refine g_load1 stp_list own_st hS ?_ | refine g_loadR stp_list own_st hS ?_ | refine g_indexAddr stp_list ?_ | refine g_indexAddrA stp_list ?_ | refine g_len stp_list ?_ | refine g_cap stp_list ?_ | refine g_extract stp_list ?_ | refine g_add stp_list ?_ | refine g_sub stp_list ?_ | refine g_mul stp_list ?_ | refine g_quo stp_list ?_ | refine g_rem stp_list ?_ | refine g_cmp_t stp_list ?_ | refine g_cmp_f stp_list ?_ | refine g_cmp stp_list (fun hc => ?_) (fun hc => ?_) | refine g_neqNil stp_list ?_ | refine g_neqNil0 stp_list ?_ | refine g_eqlNil stp_list ?_ | refine g_eqlNil0 stp_list ?_ | refine g_fieldAddr stp_list ?_ | refine g_field1 stp_list ?_ | refine g_fieldR stp_list ?_ | refine g_eqlSlNil stp_list ?_ | refine g_neqSlNil stp_list ?_ | refine g_makeInterface stp_list ?_ | refine g_makeFunc stp_list ?_ | refine g_conv stp_list ?_ | refine g_pick stp_list ?_ | refine g_not stp_list ?_ | refine g_slice stp_list ?_ | refine g_sliceA stp_list ?_ | refine g_sliceNil stp_list ?_ | refine g_nilCheck stp_list ?_ | refine g_builtS stp_list ?_ | refine g_builtA stp_list ?_) <;> refine put_in ?_) | ((first | refine g_alloc stp_list own_st hS ?_ | refine g_box stp_list own_st hS ?_ | refine g_build0 stp_list own_st hS ?_ | refine g_build stp_list own_st hS ?_ | refine g_make stp_list own_st hS ?_); clear hS; intro b w hS; refine put_in ?_) | ((first | refine g_store1 stp_list own_st hS ?_ | refine g_storeR stp_list own_st hS ?_ | refine g_storeRO stp_list own_st hS ?_); clear hS; intro w hS; refine put_in ?_) | (refine g_callq stp_list own_st hS (key_c e1 _ _ _ _ _ _ (hR3.inn hS (by intro x hx; simp [hx])) (by omega)) ?_; clear hS; intro w hS; refine put_in ?_)) | ((fail_if_success (with_reducible refine cons_list ?_)); first | go_step | go_step3 | rw [Exit.noGoto_normal] | rw [Exit.noGoto_ret] | rw [Exit.noGoto_exit]))
        all_goals first | (go_ret; exact ⟨rfl, hS.below⟩) | (exfalso; omega)
end Go.Proofs.Ytknkkcbihaojhac

namespace Go.Proofs.Ytknkkcbihaojhac
open Go.ChangeShapes Go.WideShapes Go.ChangeAt Go.RowKit

theorem Try.own : ownKnob Try.prog.godebug = none := by kernel_rfl
theorem Try.laidOut : laidOutB Try.prog = true := by kernel_rfl

set_option maxRecDepth 100000 in
theorem resvEnds_lifted (os : Os) (started : os.Started) (H : Type) (enc : TypeId × Value → H) :
    ReturnsInHanded {} Try.checked os 7 .any (Rows.resvEndsSpec.pre6 enc Try.prog Try.f7 Rows.resvEndsRow.domain false) (Rows.resvEndsSpec.post enc Try.prog Try.f7 false true false false) := by
  refine law_lift (C := Try.checked) Try.own started (by kernel_rfl) Try.func7
    (ChangeSpec.witness6 (enc := enc) (C := Try.checked) false ⟨#[], #[.slice none 0 0, .int .i64 0], []⟩ 8 (by kernel_rfl) (by kernel_rfl) (by kernel_rfl) (by kernel_rfl))
    rfl (by kernel_rfl) Try.underlying4 (fun ds h => by match ds, h with | [a, b], _ => exact ⟨rfl, rfl, rfl⟩) Try.laidOut (by kernel_rfl) ?_
  intro W base args ds p hval0 hA0 hlt hsz0
  have hval : ∀ (j : Nat) t v, Try.f7.params[j]? = some t → args[j]? = some v → Value.okWide Try.prog W .any base t v := hval0
  have hA : DataW.TrodAll enc Try.prog W 0 (fun _ => true) true Try.f7.params.toList args.toList ds p := hA0
  have hsz : (DataW.weightsEach Try.prog Try.f7.params.toList ds).all (· ≤ reachBytes) = true := hsz0
  rw [Try.params7] at hA hval hsz
  obtain ⟨v0, v1, d0, d1, p0, p1, rfl, rfl, rfl, h0, h1⟩ := trodAll_two hA
  obtain ⟨x1, rfl, rfl, rfl, wx1⟩ := open_int Try.underlying3 (hval 1 _ v1 rfl rfl) h1
  obtain ⟨x0, lx0, mx0⟩ := open_ops (okWide_slice Try.underlying41 (hval 0 _ v0 rfl rfl)) h0
  exact resvEnds_any x0 x1 v0 W lx0 mx0

theorem resvEnds_holds : Rows.ResvEndsSaid :=
  OpenClaim.holds_of_wide 7 Try.f7 rfl rfl rfl rfl rfl rfl rfl ⟨rfl, rfl, rfl, rfl, rfl⟩ rfl rfl rfl rfl rfl (by kernel_rfl) Try.func7 (by kernel_rfl)
    (of_decide_eq_true (by kernel_rfl)) (by unfold Func.isWrapper; rw [if_neg (by decide +kernel)]; exact ⟨rfl, rfl⟩)
    (fun os started H enc _ => resvEnds_lifted os started H enc)

end Go.Proofs.Ytknkkcbihaojhac
