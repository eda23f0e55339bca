/-
  Laws that the claims of this seat use, of several texts in one: ResvV. No condition of their own.
-/
import Derived.Laws.Strings
import Derived.Test.YtknkkcbihaojhacJH0

namespace Go.Proofs.Ytknkkcbihaojhac
open Go.ChangeShapes Go.WideShapes Go.ChangeAt Go.RowKit
attribute [local irreducible] wpList wpListIn Oper.quietAt wpM
theorem r_lenS {P : Program} {o : Oper} {a : Act} {w : World} {x : Operand} {t : TypeId} {s : ByteArray} {n : Nat} (hop : o.op = .call { callee := .builtin .len, args := #[x], argTypes := #[t] }) (hx : evO a x = some (.string s)) (ht : P.underlying t = some .string) (hn : s.size = n) : (execOp a.eval o).run P w = .ok (.value (.int .i64 (n : Int))) w := by
  unfold execOp; rw [hop]; subst hn
  simp [evO_eval hx, resolve, invoke, builtin, Builtin.len_, Sem.run_bind, run_underlying ht, goInt]
theorem r_indexS {P : Program} {o : Oper} {a : Act} {w : World} {x y : Operand} {t : TypeId} {s : ByteArray} {k : IntKind} {i q : Int} (hop : o.op = .index t x y) (hx : evO a x = some (.string s)) (hy : evO a y = some (.int k i)) (ht : P.underlying t = some .string) (hi : 0 ≤ i ∧ i < s.size) (hq : ((s.data.toList.getD i.toNat 0).toNat : Int) = q) : (execOp a.eval o).run P w = .ok (.value (.int .u8 q)) w := by
  unfold execOp; rw [hop]; subst hq
  have h2 : i.toNat < s.size := by omega
  have e : s.data.toList.getD i.toNat 0 = s[i.toNat] := by
    rw [List.getD_eq_getElem?_getD, List.getElem?_eq_getElem (by simpa using h2)]; rfl
  rw [e]
  simp [evO_eval hx, evO_eval hy, run_index_string w t s k i ht, hi]
def tabR (t ac : Int) : ByteArray := if ac = 2 then (if t = 3 ∨ t = 4 then ⟨#[114]⟩ else ⟨#[]⟩) else (if t = 1 ∨ t = 3 ∨ t = 5 then ⟨#[114, 111]⟩ else if t = 4 then ⟨#[114]⟩ else ⟨#[]⟩)
theorem any_found {bs : ByteArray} {k : Nat} {L : Int} (hk : k < bs.size) (he : ((bs.data.toList.getD k 0).toNat : Int) = L) : bs.data.toList.any (fun y => (y.toNat : Int) == L) = true := by
  have hk2 : k < bs.data.toList.length := by simpa using hk
  refine List.any_eq_true.2 ⟨_, List.getElem_mem hk2, ?_⟩
  rw [List.getD_eq_getElem?_getD, List.getElem?_eq_getElem hk2] at he
  simpa using he
theorem any_none {bs : ByteArray} {L : Int} (h : ∀ j, j < bs.size → ((bs.data.toList.getD j 0).toNat : Int) ≠ L) : bs.data.toList.any (fun y => (y.toNat : Int) == L) = false := by
  rw [Bool.eq_false_iff]
  intro ha
  obtain ⟨y, hy, he⟩ := List.any_eq_true.1 ha
  obtain ⟨j, hj, rfl⟩ := List.getElem_of_mem hy
  refine h j (by simpa using hj) ?_
  rw [List.getD_eq_getElem?_getD, List.getElem?_eq_getElem hj]
  simpa using he
theorem holdsRef_c {B : Bool} {l : List Rg} {h t g who : Int} {s : Bool} (hB : decide (holdsR ⟨l, h, t, s, g⟩ who) = B) (v : Value) (w0 : World) (hv : RegsAt w0 v l) (hm : l.length ≤ 1000000) :
    Calls Try.prog 19 #[.agg #[v, .int .i64 h, .int .i64 t, .bool s, .int .i64 g], .int .i64 who] w0 fun e w' => e = .returned (.bool B) ∧ Below w0.heap.size w0 w' := by
  subst hB; exact holdsRef_any l h t g who s v w0 hv hm
set_option maxRecDepth 100000 in
set_option maxHeartbeats 16000000 in
theorem allowedRef_any (l : List Rg) (hl : okL l) (h t g who ac : Int) (s : Bool) (ht : h ≠ -1 → 1 ≤ t ∧ t ≤ 6) (v : Value) (w0 : World) (hv : RegsAt w0 v l) (hm : l.length ≤ 1000000) :
    Calls Try.prog 21 #[.agg #[v, .int .i64 h, .int .i64 t, .bool s, .int .i64 g], .int .i64 who, .int .i64 ac] w0 fun e w' => e = .returned (.bool (decide (allowedP ⟨l, h, t, s, g⟩ who ac))) ∧ Below w0.heap.size w0 w' := by
  have hS := St.start w0
  obtain ⟨K, hK⟩ : ∃ K, keyOf l who = K := ⟨_, rfl⟩
  have hK0 := keyOf_pos who hl
  have hKh := keyOf_has who hl
  rw [hK] at hK0 hKh
  obtain ⟨O, hO⟩ : ∃ O, decide (holdsR ⟨l, h, t, s, g⟩ who) = O := ⟨_, rfl⟩
  have hP : allowedP ⟨l, h, t, s, g⟩ who ac ↔ (ac = 1 ∨ ac = 2) ∧ (h = -1 ∨ O = true ∨ ((t = 1 ∨ t = 5) ∧ ac = 1) ∨ (t = 3 ∧ (ac = 1 ∨ 0 < K)) ∨ (t = 4 ∧ 0 < K)) := by
    have e : 0 < K ↔ hasR l who = true := by rw [hKh]; omega
    rw [e, ← hO, decide_eq_true_iff]
    rfl
  obtain ⟨B, hB⟩ : ∃ B, decide (allowedP ⟨l, h, t, s, g⟩ who ac) = B := ⟨_, rfl⟩
  have hF : B = true ↔ (ac = 1 ∨ ac = 2) ∧ (h = -1 ∨ O = true ∨ ((t = 1 ∨ t = 5) ∧ ac = 1) ∨ (t = 3 ∧ (ac = 1 ∨ 0 < K)) ∨ (t = 4 ∧ 0 < K)) := by
    rw [← hP, ← hB, decide_eq_true_iff]
  rw [hB]
  clear hP hB hKh
  by_cases ha : ac = 1 ∨ ac = 2
  · by_cases hh : h = -1
    · obtain rfl := hF.2 ⟨ha, .inl hh⟩
      go_enter Try.func21, Try.ntmps21
      repeat' (first | ((with_reducible refine cons_list ?_); first | ((first | refine g_skip stp_list ?_ | refine g_move stp_list ?_ | refine g_assign stp_list ?_ | refine g_load1 stp_list own_st hS ?_ | refine g_loadR stp_list own_st hS ?_ | refine g_indexAddr stp_list ?_ | refine g_indexAddrA stp_list ?_ | refine g_len stp_list ?_ | refine g_cap stp_list ?_ | refine g_extract stp_list ?_ | refine g_add stp_list ?_ | refine g_sub stp_list ?_ | refine g_mul stp_list ?_ | refine g_quo stp_list ?_ | refine g_rem stp_list ?_ | refine g_cmp_t stp_list ?_ | refine g_cmp_f stp_list ?_ | refine g_cmp stp_list (fun hc => ?_) (fun hc => ?_) | refine g_neqNil stp_list ?_ | refine g_neqNil0 stp_list ?_ | refine g_eqlNil stp_list ?_ | refine g_eqlNil0 stp_list ?_ | refine g_fieldAddr stp_list ?_ | refine g_field1 stp_list ?_ | refine g_fieldR stp_list ?_ | refine g_eqlSlNil stp_list ?_ | refine g_neqSlNil stp_list ?_ | refine g_makeInterface stp_list ?_ | refine g_makeFunc stp_list ?_ | refine g_conv stp_list ?_ | refine g_pick stp_list ?_ | refine g_not stp_list ?_ | refine g_slice stp_list ?_ | refine g_sliceA stp_list ?_ | refine g_sliceNil stp_list ?_ | refine g_nilCheck stp_list ?_ | refine g_builtS stp_list ?_ | refine g_builtA stp_list ?_) <;> refine put_in ?_) | ((first | refine g_alloc stp_list own_st hS ?_ | refine g_box stp_list own_st hS ?_ | refine g_build0 stp_list own_st hS ?_ | refine g_build stp_list own_st hS ?_ | refine g_make stp_list own_st hS ?_); clear hS; intro b w hS; refine put_in ?_) | ((first | refine g_store1 stp_list own_st hS ?_ | refine g_storeR stp_list own_st hS ?_ | refine g_storeRO stp_list own_st hS ?_); clear hS; intro w hS; refine put_in ?_)) | ((fail_if_success (with_reducible refine cons_list ?_)); first | go_step | go_step3 | rw [Exit.noGoto_normal] | rw [Exit.noGoto_ret] | rw [Exit.noGoto_exit]))
      all_goals first | (go_ret; exact ⟨rfl, hS.below⟩) | (exfalso; omega)
    · cases O with
      | true =>
        obtain rfl := hF.2 ⟨ha, .inr (.inl rfl)⟩
        go_enter Try.func21, Try.ntmps21
        repeat' (first | ((with_reducible refine cons_list ?_); first | ((first | refine g_skip stp_list ?_ | refine g_move stp_list ?_ | refine g_assign stp_list ?_ | refine g_load1 stp_list own_st hS ?_ | refine g_loadR stp_list own_st hS ?_ | refine g_indexAddr stp_list ?_ | refine g_indexAddrA stp_list ?_ | refine g_len stp_list ?_ | refine g_cap stp_list ?_ | refine g_extract stp_list ?_ | refine g_add stp_list ?_ | refine g_sub stp_list ?_ | refine g_mul stp_list ?_ | refine g_quo stp_list ?_ | refine g_rem stp_list ?_ | refine g_cmp_t stp_list ?_ | refine g_cmp_f stp_list ?_ | refine g_cmp stp_list (fun hc => ?_) (fun hc => ?_) | refine g_neqNil stp_list ?_ | refine g_neqNil0 stp_list ?_ | refine g_eqlNil stp_list ?_ | refine g_eqlNil0 stp_list ?_ | refine g_fieldAddr stp_list ?_ | refine g_field1 stp_list ?_ | refine g_fieldR stp_list ?_ | refine g_eqlSlNil stp_list ?_ | refine g_neqSlNil stp_list ?_ | refine g_makeInterface stp_list ?_ | refine g_makeFunc stp_list ?_ | refine g_conv stp_list ?_ | refine g_pick stp_list ?_ | refine g_not stp_list ?_ | refine g_slice stp_list ?_ | refine g_sliceA stp_list ?_ | refine g_sliceNil stp_list ?_ | refine g_nilCheck stp_list ?_ | refine g_builtS stp_list ?_ | refine g_builtA stp_list ?_) <;> refine put_in ?_) | ((first | refine g_alloc stp_list own_st hS ?_ | refine g_box stp_list own_st hS ?_ | refine g_build0 stp_list own_st hS ?_ | refine g_build stp_list own_st hS ?_ | refine g_make stp_list own_st hS ?_); clear hS; intro b w hS; refine put_in ?_) | ((first | refine g_store1 stp_list own_st hS ?_ | refine g_storeR stp_list own_st hS ?_ | refine g_storeRO stp_list own_st hS ?_); clear hS; intro w hS; refine put_in ?_) | (refine g_callq stp_list own_st hS (holdsRef_c hO _ _ (hv.below hS.below) hm) ?_; clear hS; intro w hS; refine put_in ?_)) | ((fail_if_success (with_reducible refine cons_list ?_)); first | go_step | go_step3 | rw [Exit.noGoto_normal] | rw [Exit.noGoto_ret] | rw [Exit.noGoto_exit]))
        all_goals first | (go_ret; exact ⟨rfl, hS.below⟩) | (exfalso; omega)
      | false =>
        have htt := ht hh
        have hB4 : B = true ↔ ((t = 1 ∨ t = 5) ∧ ac = 1) ∨ (t = 3 ∧ (ac = 1 ∨ 0 < K)) ∨ (t = 4 ∧ 0 < K) := by
          rw [hF]
          constructor
          · rintro ⟨_, h1 | h1 | h1⟩
            · exact absurd h1 hh
            · cases h1
            · exact h1
          · exact fun h1 => ⟨ha, .inr (.inr h1)⟩
        clear hF ht
        obtain ⟨S, hS'⟩ : ∃ S, tabR t ac = S := ⟨_, rfl⟩
        obtain ⟨L, hL⟩ : ∃ L : Int, (if 0 < K then 114 else 111) = L := ⟨_, rfl⟩
        have h6 : t = 1 ∨ t = 2 ∨ t = 3 ∨ t = 4 ∨ t = 5 ∨ t = 6 := by omega
        clear htt
        by_cases c : 0 < K
        all_goals first | rw [if_pos c] at hL | rw [if_neg c] at hL
        all_goals rcases h6 with rfl | rfl | rfl | rfl | rfl | rfl
        all_goals rcases ha with rfl | rfl
        all_goals
          have hB6 : B = S.data.toList.any fun y => (y.toNat : Int) == L := by
            clear hS
            subst hS' hL
            first | exact (hB4.2 (by omega)).trans rfl | exact (Bool.eq_false_iff.2 (fun hb => by have := hB4.1 hb; omega)).trans rfl
          clear hB4
          have hsz : S.size ≤ 2 := by
            clear hS hB6
            subst hS'
            decide
          go_enter Try.func21, Try.ntmps21
          repeat' (first | ((with_reducible refine cons_list ?_); first | ((first | refine g_skip stp_list ?_ | refine g_move stp_list ?_ | refine g_assign stp_list ?_ | refine g_load1 stp_list own_st hS ?_ | refine g_loadR stp_list own_st hS ?_ | refine g_indexAddr stp_list ?_ | refine g_indexAddrA stp_list ?_ | refine g_len stp_list ?_ | refine g_cap stp_list ?_ | refine g_extract stp_list ?_ | refine g_add stp_list ?_ | refine g_sub stp_list ?_ | refine g_mul stp_list ?_ | refine g_quo stp_list ?_ | refine g_rem stp_list ?_ | refine g_cmp_t stp_list ?_ | refine g_cmp_f stp_list ?_ | refine g_cmp stp_list (fun hc => ?_) (fun hc => ?_) | refine g_neqNil stp_list ?_ | refine g_neqNil0 stp_list ?_ | refine g_eqlNil stp_list ?_ | refine g_eqlNil0 stp_list ?_ | refine g_fieldAddr stp_list ?_ | refine g_field1 stp_list ?_ | refine g_fieldR stp_list ?_ | refine g_eqlSlNil stp_list ?_ | refine g_neqSlNil stp_list ?_ | refine g_makeInterface stp_list ?_ | refine g_makeFunc stp_list ?_ | refine g_conv stp_list ?_ | refine g_pick stp_list ?_ | refine g_not stp_list ?_ | refine g_slice stp_list ?_ | refine g_sliceA stp_list ?_ | refine g_sliceNil stp_list ?_ | refine g_nilCheck stp_list ?_ | refine g_builtS stp_list ?_ | refine g_builtA stp_list ?_) <;> refine put_in ?_) | ((first | refine g_alloc stp_list own_st hS ?_ | refine g_box stp_list own_st hS ?_ | refine g_build0 stp_list own_st hS ?_ | refine g_build stp_list own_st hS ?_ | refine g_make stp_list own_st hS ?_); clear hS; intro b w hS; refine put_in ?_) | ((first | refine g_store1 stp_list own_st hS ?_ | refine g_storeR stp_list own_st hS ?_ | refine g_storeRO stp_list own_st hS ?_); clear hS; intro w hS; refine put_in ?_) | (refine g_callq stp_list own_st hS (holdsRef_c hO _ _ (hv.below hS.below) hm) ?_; clear hS; intro w hS; refine put_in ?_) | (refine g_callq stp_list own_st hS (key_c hK _ _ _ _ _ _ (hv.below hS.below) hm) ?_; clear hS; intro w hS; refine put_in ?_) | (refine g_builtA stp_list ?_ (hc := FillS.one (by rfl) (by rfl) (by decide) (by (try conv => lhs; simp only [List.set_cons_zero, List.set_cons_succ]); first | done | rfl) (FillS.one (by rfl) (by rfl) (by decide) (by (try conv => lhs; simp only [List.set_cons_zero, List.set_cons_succ]); first | done | rfl) (FillS.one (by rfl) (by rfl) (by decide) (by (try conv => lhs; simp only [List.set_cons_zero, List.set_cons_succ]); first | done | rfl) (FillS.one (by rfl) (by rfl) (by decide) (by (try conv => lhs; simp only [List.set_cons_zero, List.set_cons_succ]); first | done | rfl) (FillS.one (by rfl) (by rfl) (by decide) (by (try conv => lhs; simp only [List.set_cons_zero, List.set_cons_succ]); first | done | rfl) (FillS.one (by rfl) (by rfl) (by decide) (by (try conv => lhs; simp only [List.set_cons_zero, List.set_cons_succ]); first | done | rfl) (FillS.one (by rfl) (by rfl) (by decide) (by (try conv => lhs; simp only [List.set_cons_zero, List.set_cons_succ]); first | done | rfl) FillS.nil))))))); refine put_in ?_)) | ((fail_if_success (with_reducible refine cons_list ?_)); first | go_step | go_step3 | rw [Exit.noGoto_normal] | rw [Exit.noGoto_ret] | rw [Exit.noGoto_exit]))
          obtain ⟨Lb, hS⟩ : ∃ Lb, St w0 _ Lb := ⟨_, hS⟩
          go_loopw [11] (fun u11 wr => ∃ k : Nat, k ≤ S.size ∧ u11 = .int .i64 (k : Int) ∧ (∀ j, j < k → ((S.data.toList.getD j 0).toNat : Int) ≠ L) ∧ St w0 wr Lb) (fun u11 _ => S.size - (intOf u11).toNat)
          case atStart => exact ⟨0, by omega, rfl, fun j hj => by omega, hS⟩
          case round =>
            obtain ⟨k, hk, rfl, hno, hS⟩ := hrel
            by_cases hlt : k < S.size
            · have hkk := Nat.lt_of_lt_of_eq hlt (congrArg ByteArray.size hS').symm
              obtain ⟨q, hq⟩ : ∃ q : Int, ((S.data.toList.getD k 0).toNat : Int) = q := ⟨_, rfl⟩
              have hqq := (congrArg (fun z : ByteArray => ((z.data.toList.getD k 0).toNat : Int)) hS').trans hq
              by_cases he : q = L
              · have hT := hB6.trans (any_found hlt (hq.trans he))
                subst hT
                repeat' (first | ((with_reducible refine cons_list ?_); first | ((first | refine g_skip stp_list ?_ | refine g_move stp_list ?_ | refine g_assign stp_list ?_ | refine g_load1 stp_list own_st hS ?_ | refine g_loadR stp_list own_st hS ?_ | refine g_indexAddr stp_list ?_ | refine g_indexAddrA stp_list ?_ | refine g_len stp_list ?_ | refine g_cap stp_list ?_ | refine g_extract stp_list ?_ | refine g_add stp_list ?_ | refine g_sub stp_list ?_ | refine g_mul stp_list ?_ | refine g_quo stp_list ?_ | refine g_rem stp_list ?_ | refine g_cmp_t stp_list ?_ | refine g_cmp_f stp_list ?_ | refine g_cmp stp_list (fun hc => ?_) (fun hc => ?_) | refine g_neqNil stp_list ?_ | refine g_neqNil0 stp_list ?_ | refine g_eqlNil stp_list ?_ | refine g_eqlNil0 stp_list ?_ | refine g_fieldAddr stp_list ?_ | refine g_field1 stp_list ?_ | refine g_fieldR stp_list ?_ | refine g_eqlSlNil stp_list ?_ | refine g_neqSlNil stp_list ?_ | refine g_makeInterface stp_list ?_ | refine g_makeFunc stp_list ?_ | refine g_conv stp_list ?_ | refine g_pick stp_list ?_ | refine g_not stp_list ?_ | refine g_slice stp_list ?_ | refine g_sliceA stp_list ?_ | refine g_sliceNil stp_list ?_ | refine g_nilCheck stp_list ?_ | refine g_builtS stp_list ?_ | refine g_builtA stp_list ?_) <;> refine put_in ?_) | ((first | refine g_alloc stp_list own_st hS ?_ | refine g_box stp_list own_st hS ?_ | refine g_build0 stp_list own_st hS ?_ | refine g_build stp_list own_st hS ?_ | refine g_make stp_list own_st hS ?_); clear hS; intro b w hS; refine put_in ?_) | ((first | refine g_store1 stp_list own_st hS ?_ | refine g_storeR stp_list own_st hS ?_ | refine g_storeRO stp_list own_st hS ?_); clear hS; intro w hS; refine put_in ?_) | (refine Stp.go stp_list (by rfl) (by rfl) (r_lenS (by rfl) (by rfl) (by rfl) (congrArg ByteArray.size hS')) ?_; refine put_in ?_) | (refine Stp.go stp_list (by rfl) (by rfl) (r_indexS (by rfl) (by rfl) (by rfl) (by rfl) ⟨by omega, Int.ofNat_lt.2 hkk⟩ hqq) ?_; refine put_in ?_)) | ((fail_if_success (with_reducible refine cons_list ?_)); first | go_step | go_step3 | rw [Exit.noGoto_normal] | rw [Exit.noGoto_ret] | rw [Exit.noGoto_exit]))
                go_ret
                exact ⟨rfl, hS.below⟩
              · repeat' (first | ((with_reducible refine cons_list ?_); first | ((first | refine g_skip stp_list ?_ | refine g_move stp_list ?_ | refine g_assign stp_list ?_ | refine g_load1 stp_list own_st hS ?_ | refine g_loadR stp_list own_st hS ?_ | refine g_indexAddr stp_list ?_ | refine g_indexAddrA stp_list ?_ | refine g_len stp_list ?_ | refine g_cap stp_list ?_ | refine g_extract stp_list ?_ | refine g_add stp_list ?_ | refine g_sub stp_list ?_ | refine g_mul stp_list ?_ | refine g_quo stp_list ?_ | refine g_rem stp_list ?_ | refine g_cmp_t stp_list ?_ | refine g_cmp_f stp_list ?_ | refine g_cmp stp_list (fun hc => ?_) (fun hc => ?_) | refine g_neqNil stp_list ?_ | refine g_neqNil0 stp_list ?_ | refine g_eqlNil stp_list ?_ | refine g_eqlNil0 stp_list ?_ | refine g_fieldAddr stp_list ?_ | refine g_field1 stp_list ?_ | refine g_fieldR stp_list ?_ | refine g_eqlSlNil stp_list ?_ | refine g_neqSlNil stp_list ?_ | refine g_makeInterface stp_list ?_ | refine g_makeFunc stp_list ?_ | refine g_conv stp_list ?_ | refine g_pick stp_list ?_ | refine g_not stp_list ?_ | refine g_slice stp_list ?_ | refine g_sliceA stp_list ?_ | refine g_sliceNil stp_list ?_ | refine g_nilCheck stp_list ?_ | refine g_builtS stp_list ?_ | refine g_builtA stp_list ?_) <;> refine put_in ?_) | ((first | refine g_alloc stp_list own_st hS ?_ | refine g_box stp_list own_st hS ?_ | refine g_build0 stp_list own_st hS ?_ | refine g_build stp_list own_st hS ?_ | refine g_make stp_list own_st hS ?_); clear hS; intro b w hS; refine put_in ?_) | ((first | refine g_store1 stp_list own_st hS ?_ | refine g_storeR stp_list own_st hS ?_ | refine g_storeRO stp_list own_st hS ?_); clear hS; intro w hS; refine put_in ?_) | (refine Stp.go stp_list (by rfl) (by rfl) (r_lenS (by rfl) (by rfl) (by rfl) (congrArg ByteArray.size hS')) ?_; refine put_in ?_) | (refine Stp.go stp_list (by rfl) (by rfl) (r_indexS (by rfl) (by rfl) (by rfl) (by rfl) ⟨by omega, Int.ofNat_lt.2 hkk⟩ hqq) ?_; refine put_in ?_)) | ((fail_if_success (with_reducible refine cons_list ?_)); first | go_step | go_step3 | rw [Exit.noGoto_normal] | rw [Exit.noGoto_ret] | rw [Exit.noGoto_exit]))
                go_roundw
                case rel =>
                  refine ⟨k + 1, by omega, by push_cast; rfl, fun j hj => ?_, hS⟩
                  by_cases hjk : j = k
                  · subst hjk; rw [hq]; exact he
                  · exact hno j (by omega)
                case measure => simp [intOf]; omega
            · obtain rfl : k = S.size := by omega
              have hT := hB6.trans (any_none hno)
              subst hT
              repeat' (first | ((with_reducible refine cons_list ?_); first | ((first | refine g_skip stp_list ?_ | refine g_move stp_list ?_ | refine g_assign stp_list ?_ | refine g_load1 stp_list own_st hS ?_ | refine g_loadR stp_list own_st hS ?_ | refine g_indexAddr stp_list ?_ | refine g_indexAddrA stp_list ?_ | refine g_len stp_list ?_ | refine g_cap stp_list ?_ | refine g_extract stp_list ?_ | refine g_add stp_list ?_ | refine g_sub stp_list ?_ | refine g_mul stp_list ?_ | refine g_quo stp_list ?_ | refine g_rem stp_list ?_ | refine g_cmp_t stp_list ?_ | refine g_cmp_f stp_list ?_ | refine g_cmp stp_list (fun hc => ?_) (fun hc => ?_) | refine g_neqNil stp_list ?_ | refine g_neqNil0 stp_list ?_ | refine g_eqlNil stp_list ?_ | refine g_eqlNil0 stp_list ?_ | refine g_fieldAddr stp_list ?_ | refine g_field1 stp_list ?_ | refine g_fieldR stp_list ?_ | refine g_eqlSlNil stp_list ?_ | refine g_neqSlNil stp_list ?_ | refine g_makeInterface stp_list ?_ | refine g_makeFunc stp_list ?_ | refine g_conv stp_list ?_ | refine g_pick stp_list ?_ | refine g_not stp_list ?_ | refine g_slice stp_list ?_ | refine g_sliceA stp_list ?_ | refine g_sliceNil stp_list ?_ | refine g_nilCheck stp_list ?_ | refine g_builtS stp_list ?_ | refine g_builtA stp_list ?_) <;> refine put_in ?_) | ((first | refine g_alloc stp_list own_st hS ?_ | refine g_box stp_list own_st hS ?_ | refine g_build0 stp_list own_st hS ?_ | refine g_build stp_list own_st hS ?_ | refine g_make stp_list own_st hS ?_); clear hS; intro b w hS; refine put_in ?_) | ((first | refine g_store1 stp_list own_st hS ?_ | refine g_storeR stp_list own_st hS ?_ | refine g_storeRO stp_list own_st hS ?_); clear hS; intro w hS; refine put_in ?_) | (refine Stp.go stp_list (by rfl) (by rfl) (r_lenS (by rfl) (by rfl) (by rfl) (congrArg ByteArray.size hS')) ?_; refine put_in ?_)) | ((fail_if_success (with_reducible refine cons_list ?_)); first | go_step | go_step3 | rw [Exit.noGoto_normal] | rw [Exit.noGoto_ret] | rw [Exit.noGoto_exit]))
              go_ret
              exact ⟨rfl, hS.below⟩
  · obtain rfl : B = false := Bool.eq_false_iff.2 fun hb => ha (hF.1 hb).1
    clear hF
    go_enter Try.func21, Try.ntmps21
    repeat' (first | ((with_reducible refine cons_list ?_); first | ((first | refine g_skip stp_list ?_ | refine g_move stp_list ?_ | refine g_assign stp_list ?_ | refine g_load1 stp_list own_st hS ?_ | refine g_loadR stp_list own_st hS ?_ | refine g_indexAddr stp_list ?_ | refine g_indexAddrA stp_list ?_ | refine g_len stp_list ?_ | refine g_cap stp_list ?_ | refine g_extract stp_list ?_ | refine g_add stp_list ?_ | refine g_sub stp_list ?_ | refine g_mul stp_list ?_ | refine g_quo stp_list ?_ | refine g_rem stp_list ?_ | refine g_cmp_t stp_list ?_ | refine g_cmp_f stp_list ?_ | refine g_cmp stp_list (fun hc => ?_) (fun hc => ?_) | refine g_neqNil stp_list ?_ | refine g_neqNil0 stp_list ?_ | refine g_eqlNil stp_list ?_ | refine g_eqlNil0 stp_list ?_ | refine g_fieldAddr stp_list ?_ | refine g_field1 stp_list ?_ | refine g_fieldR stp_list ?_ | refine g_eqlSlNil stp_list ?_ | refine g_neqSlNil stp_list ?_ | refine g_makeInterface stp_list ?_ | refine g_makeFunc stp_list ?_ | refine g_conv stp_list ?_ | refine g_pick stp_list ?_ | refine g_not stp_list ?_ | refine g_slice stp_list ?_ | refine g_sliceA stp_list ?_ | refine g_sliceNil stp_list ?_ | refine g_nilCheck stp_list ?_ | refine g_builtS stp_list ?_ | refine g_builtA stp_list ?_) <;> refine put_in ?_) | ((first | refine g_alloc stp_list own_st hS ?_ | refine g_box stp_list own_st hS ?_ | refine g_build0 stp_list own_st hS ?_ | refine g_build stp_list own_st hS ?_ | refine g_make stp_list own_st hS ?_); clear hS; intro b w hS; refine put_in ?_) | ((first | refine g_store1 stp_list own_st hS ?_ | refine g_storeR stp_list own_st hS ?_ | refine g_storeRO stp_list own_st hS ?_); clear hS; intro w hS; refine put_in ?_)) | ((fail_if_success (with_reducible refine cons_list ?_)); first | go_step | go_step3 | rw [Exit.noGoto_normal] | rw [Exit.noGoto_ret] | rw [Exit.noGoto_exit]))
    all_goals first | (go_ret; exact ⟨rfl, hS.below⟩) | (exfalso; omega)
end Go.Proofs.Ytknkkcbihaojhac
