/-
  Laws that the claims of this seat use, of several texts in one: RefWrapP, RefWrapW, Append2. No condition of their own.
-/
import Derived.Test.YtknkkcbihaojhaaJC2

namespace Go.Proofs.Ytknkkcbihaojhaa
open Go.ChangeShapes Go.WideShapes Go.ChangeAt Go.RowKit
/-- The block that is filled byte by byte: x bytes of each half. -/
def fillK (a wd : List UInt8) (x : Nat) : List UInt8 := (List.range 16).map fun i => if i < 8 then (if i < x then a.getD i 0 else 0) else (if i - 8 < x then wd.getD (i - 8) 0 else 0)
theorem fillK_len (a wd : List UInt8) (x : Nat) : (fillK a wd x).length = 16 := by simp [fillK]
theorem fillK_zero (a wd : List UInt8) : fillK a wd 0 = zs 16 := by
  apply List.ext_getElem
  · rw [fillK_len, zs_len]
  · intro i h1 h2
    have e : zs 16 = List.replicate 16 0 := by unfold zs; rfl
    rw [List.getElem_of_eq e, List.getElem_replicate]
    simp [fillK]
theorem fillK_succ (a wd : List UInt8) {x : Nat} (hx : x < 8) : ((fillK a wd x).set x (a.getD x 0)).set (8 + x) (wd.getD x 0) = fillK a wd (x + 1) := by
  apply List.ext_getElem
  · simp [fillK_len]
  · intro i h1 h2
    have hi : i < 16 := by rw [fillK_len] at h2; exact h2
    rw [List.getElem_set, List.getElem_set]
    simp only [fillK, List.getElem_map, List.getElem_range]
    by_cases e1 : 8 + x = i
    · subst e1
      rw [if_pos rfl, if_neg (by omega), if_pos (by omega)]
      congr 1; omega
    · rw [if_neg e1]
      by_cases e2 : x = i
      · subst e2
        rw [if_pos rfl, if_pos (by omega), if_pos (by omega)]
      · rw [if_neg e2]
        by_cases e3 : i < 8
        · rw [if_pos e3, if_pos e3]
          by_cases e4 : i < x
          · rw [if_pos e4, if_pos (by omega)]
          · rw [if_neg e4, if_neg (by omega)]
        · rw [if_neg e3, if_neg e3]
          by_cases e4 : i - 8 < x
          · rw [if_pos e4, if_pos (by omega)]
          · rw [if_neg e4, if_neg (by omega)]
theorem getD_get {l : List UInt8} {i : Nat} (h : i < l.length) : l.getD i 0 = l[i] := by
  rw [List.getD_eq_getElem?_getD, List.getElem?_eq_getElem h]; rfl
theorem fillK_done {a wd : List UInt8} (ha : a.length = 8) (hw : wd.length = 8) : fillK a wd 8 = a ++ wd := by
  apply List.ext_getElem
  · rw [fillK_len, List.length_append, ha, hw]
  · intro i h1 h2
    have hi : i < 16 := by rw [fillK_len] at h1; exact h1
    simp only [fillK, List.getElem_map, List.getElem_range]
    by_cases e : i < 8
    · rw [if_pos e, if_pos e, List.getElem_append_left (by omega), getD_get (by omega)]
    · rw [if_neg e, if_pos (by omega), List.getElem_append_right (by omega), getD_get (by omega)]
      congr 1; omega
/-- The first half that is turned from its end: x bytes are left. -/
def turnA (a y : List UInt8) (s x : Nat) : List UInt8 := (List.range 8).map fun i => if i < x then a.getD i 0 else y.getD i 0 ^^^ UInt8.ofNat (s / 256 ^ (7 - i))
theorem turnA_len (a y : List UInt8) (s x : Nat) : (turnA a y s x).length = 8 := by simp [turnA]
theorem turnA_full {a y : List UInt8} {s : Nat} (ha : a.length = 8) : turnA a y s 8 = a := by
  apply List.ext_getElem
  · rw [turnA_len, ha]
  · intro i h1 h2
    simp only [turnA, List.getElem_map, List.getElem_range]
    rw [if_pos (by omega), getD_get h2]
theorem turnA_step (a y : List UInt8) (s : Nat) {x : Nat} (_hx : x < 8) : (turnA a y s (x + 1)).set x (y.getD x 0 ^^^ UInt8.ofNat (s / 256 ^ (7 - x))) = turnA a y s x := by
  apply List.ext_getElem
  · simp [turnA_len]
  · intro i h1 h2
    rw [List.getElem_set]
    simp only [turnA, List.getElem_map, List.getElem_range]
    by_cases e : x = i
    · subst e
      rw [if_pos rfl, if_neg (by omega)]
    · rw [if_neg e]
      by_cases e2 : i < x
      · rw [if_pos (by omega), if_pos e2]
      · rw [if_neg (by omega), if_neg e2]
theorem leB_getD (n : Nat) : ∀ (k i : Nat), i < k → (leB n k).getD i 0 = UInt8.ofNat (n / 256 ^ i)
  | k + 1, i, h => by
    rw [leB_succ, List.getD_eq_getElem?_getD]
    by_cases e : i < k
    · rw [List.getElem?_append_left (by rw [leB_len]; exact e), ← List.getD_eq_getElem?_getD, leB_getD n k i e]
    · obtain rfl : i = k := by omega
      rw [List.getElem?_append_right (by rw [leB_len]; omega), leB_len, Nat.sub_self]
      rfl
theorem beB_get (n : Nat) {i : Nat} (h : i < 8) (h2 : i < (beB n 8).length) : (beB n 8)[i] = UInt8.ofNat (n / 256 ^ (7 - i)) := by
  have h3 : 7 - i < 8 := by omega
  have := leB_getD n 8 (7 - i) h3
  rw [getD_get (by rw [leB_len]; exact h3)] at this
  rw [← this]
  have e : beB n 8 = (leB n 8).reverse := by unfold beB; rfl
  rw [List.getElem_of_eq e, List.getElem_reverse]
  have e2 : (leB n 8).length - 1 - i = 7 - i := by rw [leB_len]
  simp only [e2]
theorem turnA_done {a y : List UInt8} {s : Nat} (hy : y.length = 16) : turnA a y s 0 = xorL (y.take 8) (beB s 8) := by
  apply List.ext_getElem
  · rw [turnA_len, xorL_len _ _ 8 (by rw [List.length_take, hy]; rfl) (beB_len _ _)]
  · intro i h1 h2
    have hi : i < 8 := by rw [turnA_len] at h1; exact h1
    have e : xorL (y.take 8) (beB s 8) = List.zipWith (· ^^^ ·) (y.take 8) (beB s 8) := by unfold xorL; rfl
    rw [List.getElem_of_eq e, List.getElem_zipWith, List.getElem_take, beB_get s hi]
    simp only [turnA, List.getElem_map, List.getElem_range]
    rw [if_neg (by omega), getD_get (by omega)]
/-- The word that is written from its end: x bytes are left. -/
def turnR (r y : List UInt8) (j x : Nat) : List UInt8 := (List.range r.length).map fun i => if 8 * j + x ≤ i ∧ i < 8 * j + 8 then y.getD (8 + (i - 8 * j)) 0 else r.getD i 0
theorem turnR_len (r y : List UInt8) (j x : Nat) : (turnR r y j x).length = r.length := by simp [turnR]
theorem turnR_full (r y : List UInt8) (j : Nat) : turnR r y j 8 = r := by
  apply List.ext_getElem
  · rw [turnR_len]
  · intro i h1 h2
    simp only [turnR, List.getElem_map, List.getElem_range]
    rw [if_neg (by omega), getD_get h2]
theorem turnR_step (r y : List UInt8) (j : Nat) {x : Nat} (hx : x < 8) : (turnR r y j (x + 1)).set (8 * j + x) (y.getD (8 + x) 0) = turnR r y j x := by
  apply List.ext_getElem
  · simp [turnR_len]
  · intro i h1 h2
    rw [List.getElem_set]
    simp only [turnR, List.getElem_map, List.getElem_range]
    by_cases e : 8 * j + x = i
    · subst e
      rw [if_pos rfl, if_pos (by omega)]
      congr 1; omega
    · rw [if_neg e]
      by_cases e2 : 8 * j + (x + 1) ≤ i ∧ i < 8 * j + 8
      · rw [if_pos e2, if_pos (by omega)]
      · rw [if_neg e2, if_neg (by omega)]
theorem turnR_done {r y : List UInt8} {j : Nat} (hj : 8 * j + 8 ≤ r.length) (hy : y.length = 16) : turnR r y j 0 = putW r (y.drop 8) j := by
  apply List.ext_getElem
  · rw [turnR_len, putW_len hj (by rw [List.length_drop, hy])]
  · intro i h1 h2
    have hi : i < r.length := by rw [turnR_len] at h1; exact h1
    have ht : (r.take (8 * j)).length = 8 * j := by rw [List.length_take]; omega
    have hd : (y.drop 8).length = 8 := by rw [List.length_drop, hy]
    simp only [turnR, List.getElem_map, List.getElem_range, Nat.add_zero]
    have e : putW r (y.drop 8) j = r.take (8 * j) ++ (y.drop 8 ++ r.drop (8 * j + 8)) := by unfold putW; rfl
    rw [List.getElem_of_eq e]
    by_cases e1 : i < 8 * j
    · rw [if_neg (by omega), List.getElem_append_left (by omega), List.getElem_take, getD_get hi]
    · rw [List.getElem_append_right (by omega)]
      by_cases e2 : i < 8 * j + 8
      · rw [if_pos (by omega), List.getElem_append_left (by omega), List.getElem_drop, getD_get (by omega)]
        congr 1; omega
      · rw [if_neg (by omega), List.getElem_append_right (by omega), List.getElem_drop, getD_get hi]
        congr 1; omega
theorem wordAt_getD {r : List UInt8} {j x : Nat} (hx : x < 8) : (wordAt r j).getD x 0 = r.getD (8 * j + x) 0 := by
  unfold wordAt
  rw [List.getD_eq_getElem?_getD, List.getD_eq_getElem?_getD, List.getElem?_take, if_pos hx, List.getElem?_drop]
theorem r_xor8c {P : Program} {o : Oper} {a : Act} {w : World} {t t' : TypeId} {x y : Operand} {m n q : UInt8} {c : Int} (hop : o.op = .binOp .xor t x y t') (hx : evO a x = some (.int .u8 (m.toNat : Int))) (hy : evO a y = some (.int .u8 c)) (hc : c = (n.toNat : Int)) (hq : m ^^^ n = q) : (execOp a.eval o).run P w = .ok (.value (.int .u8 (q.toNat : Int))) w := by
  subst hc; exact r_xor8 hop hx hy hq
theorem byte_low (s : Nat) : ((s : Nat) : Int) % 256 = ((UInt8.ofNat s).toNat : Int) := by simp
attribute [irreducible] fillK turnA turnR
end Go.Proofs.Ytknkkcbihaojhaa

namespace Go.Proofs.Ytknkkcbihaojhaa
open Go.ChangeShapes Go.WideShapes Go.ChangeAt Go.RowKit
attribute [local irreducible] wpList wpListIn
attribute [local irreducible] xorL sboxL subB sealV openV
set_option maxRecDepth 100000 in
set_option maxHeartbeats 2000000 in
theorem refWrap_key (key : List UInt8) (h : ¬ (key.length = 16 ∨ key.length = 32)) (hm : key.length ≤ maxLen) (v tv : Value) (w : World) (hv : BytesAt w v key) :
    Calls Try.prog 13 #[v, tv] w fun e w' => e = .returned (.tuple #[.slice none 0 0, .int .i64 3]) ∧ Below w.heap.size w w' := by
  have hS := St.start w
  go_enter Try.func13, Try.ntmps13
  repeat' (first | ((with_reducible refine cons_list ?_); first | ((first | refine g_skip stp_list ?_ | refine g_move stp_list ?_ | refine g_assign stp_list ?_ | refine g_load1 stp_list own_st hS ?_ | refine g_loadR stp_list own_st hS ?_ | refine g_indexAddr stp_list ?_ | refine g_indexAddrA stp_list ?_ | refine g_len stp_list ?_ | refine g_cap stp_list ?_ | refine g_extract stp_list ?_ | refine g_add stp_list ?_ | refine g_sub stp_list ?_ | refine g_mul stp_list ?_ | refine g_quo stp_list ?_ | refine g_rem stp_list ?_ | refine g_cmp_t stp_list ?_ | refine g_cmp_f stp_list ?_ | refine g_cmp stp_list (fun hc => ?_) (fun hc => ?_) | refine g_neqNil stp_list ?_ | refine g_neqNil0 stp_list ?_ | refine g_eqlNil stp_list ?_ | refine g_eqlNil0 stp_list ?_ | refine g_fieldAddr stp_list ?_ | refine g_field1 stp_list ?_ | refine g_fieldR stp_list ?_ | refine g_eqlSlNil stp_list ?_ | refine g_neqSlNil stp_list ?_ | refine g_makeInterface stp_list ?_ | refine g_makeFunc stp_list ?_ | refine g_conv stp_list ?_ | refine g_pick stp_list ?_ | refine g_not stp_list ?_ | refine g_slice stp_list ?_ | refine g_sliceA stp_list ?_ | refine g_sliceNil stp_list ?_) <;> refine put_in ?_) | ((first | refine g_alloc stp_list own_st hS ?_ | refine g_box stp_list own_st hS ?_ | refine g_build0 stp_list own_st hS ?_ | refine g_build stp_list own_st hS ?_ | refine g_make stp_list own_st hS ?_); clear hS; intro b w hS; refine put_in ?_) | ((first | refine g_store1 stp_list own_st hS ?_ | refine g_storeR stp_list own_st hS ?_); clear hS; intro w hS; refine put_in ?_)) | ((fail_if_success (with_reducible refine cons_list ?_)); first | go_step | go_step3 | rw [Exit.noGoto_normal] | rw [Exit.noGoto_ret] | rw [Exit.noGoto_exit]))
  refine s_call stp_list (by rfl) (by rfl) (by rfl) (by rfl) (by rfl) (by infer_instance) (refRoundsBad_any key (fun e => h (.inl e)) (fun e => h (.inr e)) v _ hv hm) ?_
  rintro e w' ⟨rfl, rfl⟩
  refine ⟨_, rfl, ?_⟩
  refine put_in ?_
  repeat' (first | ((with_reducible refine cons_list ?_); first | ((first | refine g_skip stp_list ?_ | refine g_move stp_list ?_ | refine g_assign stp_list ?_ | refine g_load1 stp_list own_st hS ?_ | refine g_loadR stp_list own_st hS ?_ | refine g_indexAddr stp_list ?_ | refine g_indexAddrA stp_list ?_ | refine g_len stp_list ?_ | refine g_cap stp_list ?_ | refine g_extract stp_list ?_ | refine g_add stp_list ?_ | refine g_sub stp_list ?_ | refine g_mul stp_list ?_ | refine g_quo stp_list ?_ | refine g_rem stp_list ?_ | refine g_cmp_t stp_list ?_ | refine g_cmp_f stp_list ?_ | refine g_cmp stp_list (fun hc => ?_) (fun hc => ?_) | refine g_neqNil stp_list ?_ | refine g_neqNil0 stp_list ?_ | refine g_eqlNil stp_list ?_ | refine g_eqlNil0 stp_list ?_ | refine g_fieldAddr stp_list ?_ | refine g_field1 stp_list ?_ | refine g_fieldR stp_list ?_ | refine g_eqlSlNil stp_list ?_ | refine g_neqSlNil stp_list ?_ | refine g_makeInterface stp_list ?_ | refine g_makeFunc stp_list ?_ | refine g_conv stp_list ?_ | refine g_pick stp_list ?_ | refine g_not stp_list ?_ | refine g_slice stp_list ?_ | refine g_sliceA stp_list ?_ | refine g_sliceNil stp_list ?_) <;> refine put_in ?_) | ((first | refine g_alloc stp_list own_st hS ?_ | refine g_box stp_list own_st hS ?_ | refine g_build0 stp_list own_st hS ?_ | refine g_build stp_list own_st hS ?_ | refine g_make stp_list own_st hS ?_); clear hS; intro b w hS; refine put_in ?_) | ((first | refine g_store1 stp_list own_st hS ?_ | refine g_storeR stp_list own_st hS ?_); clear hS; intro w hS; refine put_in ?_)) | ((fail_if_success (with_reducible refine cons_list ?_)); first | go_step | go_step3 | rw [Exit.noGoto_normal] | rw [Exit.noGoto_ret] | rw [Exit.noGoto_exit]))
  go_ret2
  exact ⟨rfl, hS.below⟩
set_option maxRecDepth 100000 in
set_option maxHeartbeats 2000000 in
theorem refWrap_form (key : List UInt8) (h : key.length = 16 ∨ key.length = 32) (v : Value) (p : Option Addr) (n c : Nat) (hn : n ≤ 9223372036854775807) (hbad : ¬ (n % 8 = 0 ∧ 16 ≤ n ∧ n ≤ 512)) (w : World) (hv : BytesAt w v key) :
    Calls Try.prog 13 #[v, .slice p n c] w fun e w' => e = .returned (.tuple #[.slice none 0 0, .int .i64 2]) ∧ Below w.heap.size w w' := by
  have hS := St.start w
  go_enter Try.func13, Try.ntmps13
  repeat' (first | ((with_reducible refine cons_list ?_); first | ((first | refine g_skip stp_list ?_ | refine g_move stp_list ?_ | refine g_assign stp_list ?_ | refine g_load1 stp_list own_st hS ?_ | refine g_loadR stp_list own_st hS ?_ | refine g_indexAddr stp_list ?_ | refine g_indexAddrA stp_list ?_ | refine g_len stp_list ?_ | refine g_cap stp_list ?_ | refine g_extract stp_list ?_ | refine g_add stp_list ?_ | refine g_sub stp_list ?_ | refine g_mul stp_list ?_ | refine g_quo stp_list ?_ | refine g_rem stp_list ?_ | refine g_cmp_t stp_list ?_ | refine g_cmp_f stp_list ?_ | refine g_cmp stp_list (fun hc => ?_) (fun hc => ?_) | refine g_neqNil stp_list ?_ | refine g_neqNil0 stp_list ?_ | refine g_eqlNil stp_list ?_ | refine g_eqlNil0 stp_list ?_ | refine g_fieldAddr stp_list ?_ | refine g_field1 stp_list ?_ | refine g_fieldR stp_list ?_ | refine g_eqlSlNil stp_list ?_ | refine g_neqSlNil stp_list ?_ | refine g_makeInterface stp_list ?_ | refine g_makeFunc stp_list ?_ | refine g_conv stp_list ?_ | refine g_pick stp_list ?_ | refine g_not stp_list ?_ | refine g_slice stp_list ?_ | refine g_sliceA stp_list ?_ | refine g_sliceNil stp_list ?_) <;> refine put_in ?_) | ((first | refine g_alloc stp_list own_st hS ?_ | refine g_box stp_list own_st hS ?_ | refine g_build0 stp_list own_st hS ?_ | refine g_build stp_list own_st hS ?_ | refine g_make stp_list own_st hS ?_); clear hS; intro b w hS; refine put_in ?_) | ((first | refine g_store1 stp_list own_st hS ?_ | refine g_storeR stp_list own_st hS ?_); clear hS; intro w hS; refine put_in ?_)) | ((fail_if_success (with_reducible refine cons_list ?_)); first | go_step | go_step3 | rw [Exit.noGoto_normal] | rw [Exit.noGoto_ret] | rw [Exit.noGoto_exit]))
  refine s_call stp_list (by rfl) (by rfl) (by rfl) (by rfl) (by rfl) (by infer_instance) (refRounds_good key h v _ hv) ?_
  rintro e w1 ⟨rp, rc, rfl, hR, hB⟩
  refine ⟨_, rfl, ?_⟩
  refine put_in ?_
  replace hS := hS.call hB
  clear hR
  by_cases h8 : n % 8 = 0
  · have h80 : (n : Int) % 8 = 0 := by omega
    by_cases h16 : 16 ≤ n
    · repeat' (first | ((with_reducible refine cons_list ?_); first | ((first | refine g_skip stp_list ?_ | refine g_move stp_list ?_ | refine g_assign stp_list ?_ | refine g_load1 stp_list own_st hS ?_ | refine g_loadR stp_list own_st hS ?_ | refine g_indexAddr stp_list ?_ | refine g_indexAddrA stp_list ?_ | refine g_len stp_list ?_ | refine g_cap stp_list ?_ | refine g_extract stp_list ?_ | refine g_add stp_list ?_ | refine g_sub stp_list ?_ | refine g_mul stp_list ?_ | refine g_quo stp_list ?_ | refine g_rem stp_list ?_ | refine g_cmp_t stp_list ?_ | refine g_cmp_f stp_list ?_ | refine g_cmp stp_list (fun hc => ?_) (fun hc => ?_) | refine g_neqNil stp_list ?_ | refine g_neqNil0 stp_list ?_ | refine g_eqlNil stp_list ?_ | refine g_eqlNil0 stp_list ?_ | refine g_fieldAddr stp_list ?_ | refine g_field1 stp_list ?_ | refine g_fieldR stp_list ?_ | refine g_eqlSlNil stp_list ?_ | refine g_neqSlNil stp_list ?_ | refine g_makeInterface stp_list ?_ | refine g_makeFunc stp_list ?_ | refine g_conv stp_list ?_ | refine g_pick stp_list ?_ | refine g_not stp_list ?_ | refine g_slice stp_list ?_ | refine g_sliceA stp_list ?_ | refine g_sliceNil stp_list ?_) <;> refine put_in ?_) | ((first | refine g_alloc stp_list own_st hS ?_ | refine g_box stp_list own_st hS ?_ | refine g_build0 stp_list own_st hS ?_ | refine g_build stp_list own_st hS ?_ | refine g_make stp_list own_st hS ?_); clear hS; intro b w hS; refine put_in ?_) | ((first | refine g_store1 stp_list own_st hS ?_ | refine g_storeR stp_list own_st hS ?_); clear hS; intro w hS; refine put_in ?_)) | ((fail_if_success (with_reducible refine cons_list ?_)); first | go_step | go_step3 | rw [Exit.noGoto_normal] | rw [Exit.noGoto_ret] | rw [Exit.noGoto_exit]))
      go_ret2
      exact ⟨rfl, hS.below⟩
    · repeat' (first | ((with_reducible refine cons_list ?_); first | ((first | refine g_skip stp_list ?_ | refine g_move stp_list ?_ | refine g_assign stp_list ?_ | refine g_load1 stp_list own_st hS ?_ | refine g_loadR stp_list own_st hS ?_ | refine g_indexAddr stp_list ?_ | refine g_indexAddrA stp_list ?_ | refine g_len stp_list ?_ | refine g_cap stp_list ?_ | refine g_extract stp_list ?_ | refine g_add stp_list ?_ | refine g_sub stp_list ?_ | refine g_mul stp_list ?_ | refine g_quo stp_list ?_ | refine g_rem stp_list ?_ | refine g_cmp_t stp_list ?_ | refine g_cmp_f stp_list ?_ | refine g_cmp stp_list (fun hc => ?_) (fun hc => ?_) | refine g_neqNil stp_list ?_ | refine g_neqNil0 stp_list ?_ | refine g_eqlNil stp_list ?_ | refine g_eqlNil0 stp_list ?_ | refine g_fieldAddr stp_list ?_ | refine g_field1 stp_list ?_ | refine g_fieldR stp_list ?_ | refine g_eqlSlNil stp_list ?_ | refine g_neqSlNil stp_list ?_ | refine g_makeInterface stp_list ?_ | refine g_makeFunc stp_list ?_ | refine g_conv stp_list ?_ | refine g_pick stp_list ?_ | refine g_not stp_list ?_ | refine g_slice stp_list ?_ | refine g_sliceA stp_list ?_ | refine g_sliceNil stp_list ?_) <;> refine put_in ?_) | ((first | refine g_alloc stp_list own_st hS ?_ | refine g_box stp_list own_st hS ?_ | refine g_build0 stp_list own_st hS ?_ | refine g_build stp_list own_st hS ?_ | refine g_make stp_list own_st hS ?_); clear hS; intro b w hS; refine put_in ?_) | ((first | refine g_store1 stp_list own_st hS ?_ | refine g_storeR stp_list own_st hS ?_); clear hS; intro w hS; refine put_in ?_)) | ((fail_if_success (with_reducible refine cons_list ?_)); first | go_step | go_step3 | rw [Exit.noGoto_normal] | rw [Exit.noGoto_ret] | rw [Exit.noGoto_exit]))
      go_ret2
      exact ⟨rfl, hS.below⟩
  · have h80 : ¬ (n : Int) % 8 = 0 := by omega
    repeat' (first | ((with_reducible refine cons_list ?_); first | ((first | refine g_skip stp_list ?_ | refine g_move stp_list ?_ | refine g_assign stp_list ?_ | refine g_load1 stp_list own_st hS ?_ | refine g_loadR stp_list own_st hS ?_ | refine g_indexAddr stp_list ?_ | refine g_indexAddrA stp_list ?_ | refine g_len stp_list ?_ | refine g_cap stp_list ?_ | refine g_extract stp_list ?_ | refine g_add stp_list ?_ | refine g_sub stp_list ?_ | refine g_mul stp_list ?_ | refine g_quo stp_list ?_ | refine g_rem stp_list ?_ | refine g_cmp_t stp_list ?_ | refine g_cmp_f stp_list ?_ | refine g_cmp stp_list (fun hc => ?_) (fun hc => ?_) | refine g_neqNil stp_list ?_ | refine g_neqNil0 stp_list ?_ | refine g_eqlNil stp_list ?_ | refine g_eqlNil0 stp_list ?_ | refine g_fieldAddr stp_list ?_ | refine g_field1 stp_list ?_ | refine g_fieldR stp_list ?_ | refine g_eqlSlNil stp_list ?_ | refine g_neqSlNil stp_list ?_ | refine g_makeInterface stp_list ?_ | refine g_makeFunc stp_list ?_ | refine g_conv stp_list ?_ | refine g_pick stp_list ?_ | refine g_not stp_list ?_ | refine g_slice stp_list ?_ | refine g_sliceA stp_list ?_ | refine g_sliceNil stp_list ?_) <;> refine put_in ?_) | ((first | refine g_alloc stp_list own_st hS ?_ | refine g_box stp_list own_st hS ?_ | refine g_build0 stp_list own_st hS ?_ | refine g_build stp_list own_st hS ?_ | refine g_make stp_list own_st hS ?_); clear hS; intro b w hS; refine put_in ?_) | ((first | refine g_store1 stp_list own_st hS ?_ | refine g_storeR stp_list own_st hS ?_); clear hS; intro w hS; refine put_in ?_)) | ((fail_if_success (with_reducible refine cons_list ?_)); first | go_step | go_step3 | rw [Exit.noGoto_normal] | rw [Exit.noGoto_ret] | rw [Exit.noGoto_exit]))
    go_ret2
    exact ⟨rfl, hS.below⟩
theorem cell_pre {R : List UInt8} {sp : List Value} {idx : Nat} (h : idx < R.length) : ((R.map bv ++ sp).toArray)[idx]? = some (.int .u8 ((R.getD idx 0).toNat : Int)) := by
  rw [← Array.getElem?_toList]
  show (R.map bv ++ sp)[idx]? = _
  rw [List.getElem?_append_left (by rw [List.length_map]; exact h), List.getElem?_map, get_some h]
  rfl
theorem pre_set {R : List UInt8} {sp : List Value} {idx : Nat} {b : UInt8} (h : idx < R.length) : ((R.map bv ++ sp).toArray).setIfInBounds idx (.int .u8 (b.toNat : Int)) = ((R.set idx b).map bv ++ sp).toArray := by
  rw [List.setIfInBounds_toArray, List.set_append_left _ _ (by rw [List.length_map]; exact h), List.map_set]
  rfl
set_option maxRecDepth 100000 in
set_option maxHeartbeats 4000000 in
theorem refWrap_good (key l : List UInt8) (h : key.length = 16 ∨ key.length = 32) (n : Nat) (hn : l.length = 8 * n) (hn2 : 2 ≤ n ∧ n ≤ 64) (v tv : Value) (w : World) (hv : BytesAt w v key) (ht : BytesAt w tv l) :
    Calls Try.prog 13 #[v, tv] w fun e w' => ∃ g c sp, e = .returned (.tuple #[.slice (some ⟨g, 0, none⟩) (l.length + 8) c, .int .i64 0]) ∧ l.length + 8 ≤ c ∧ w.heap.size ≤ g ∧ blk w' g = some (.cells ((wrapV key l).map bv ++ sp).toArray 5 (0, 0)) ∧ Below w.heap.size w w' := by
  have hl0 : l ≠ [] := by rintro rfl; simp at hn; omega
  have ht0 := ht
  obtain ⟨tp, tc, rfl, htc, hp0, hcell⟩ := id ht
  obtain ⟨tb, ti, tcs, tty, tfr, rfl, htb, htx⟩ := hcell hl0
  clear hp0 hcell htb htx ht0
  have hkl : key.length ≤ 100000 := by omega
  have hS := St.start w
  go_enter Try.func13, Try.ntmps13
  repeat' (first | ((with_reducible refine cons_list ?_); first | ((first | refine g_skip stp_list ?_ | refine g_move stp_list ?_ | refine g_assign stp_list ?_ | refine g_load1 stp_list own_st hS ?_ | refine g_loadR stp_list own_st hS ?_ | refine g_indexAddr stp_list ?_ | refine g_indexAddrA stp_list ?_ | refine g_len stp_list ?_ | refine g_cap stp_list ?_ | refine g_extract stp_list ?_ | refine g_add stp_list ?_ | refine g_sub stp_list ?_ | refine g_mul stp_list ?_ | refine g_quo stp_list ?_ | refine g_rem stp_list ?_ | refine g_cmp_t stp_list ?_ | refine g_cmp_f stp_list ?_ | refine g_cmp stp_list (fun hc => ?_) (fun hc => ?_) | refine g_neqNil stp_list ?_ | refine g_neqNil0 stp_list ?_ | refine g_eqlNil stp_list ?_ | refine g_eqlNil0 stp_list ?_ | refine g_fieldAddr stp_list ?_ | refine g_field1 stp_list ?_ | refine g_fieldR stp_list ?_ | refine g_eqlSlNil stp_list ?_ | refine g_neqSlNil stp_list ?_ | refine g_makeInterface stp_list ?_ | refine g_makeFunc stp_list ?_ | refine g_conv stp_list ?_ | refine g_pick stp_list ?_ | refine g_not stp_list ?_ | refine g_slice stp_list ?_ | refine g_sliceA stp_list ?_ | refine g_sliceNil stp_list ?_) <;> refine put_in ?_) | ((first | refine g_alloc stp_list own_st hS ?_ | refine g_box stp_list own_st hS ?_ | refine g_build0 stp_list own_st hS ?_ | refine g_build stp_list own_st hS ?_ | refine g_make stp_list own_st hS ?_); clear hS; intro b w hS; refine put_in ?_) | ((first | refine g_store1 stp_list own_st hS ?_ | refine g_storeR stp_list own_st hS ?_); clear hS; intro w hS; refine put_in ?_)) | ((fail_if_success (with_reducible refine cons_list ?_)); first | go_step | go_step3 | rw [Exit.noGoto_normal] | rw [Exit.noGoto_ret] | rw [Exit.noGoto_exit]))
  refine s_call stp_list (by rfl) (by rfl) (by rfl) (by rfl) (by rfl) (by infer_instance) (refRounds_good key h v _ hv) ?_
  rintro e w1 ⟨rp, rc, rfl, hR, hB⟩
  refine ⟨_, rfl, ?_⟩
  refine put_in ?_
  clear hS
  have ht1 := ht.below hB
  have hS := St.start w1
  have h80 : ((l.length : Nat) : Int) % 8 = 0 := by omega
  have h8n : ((l.length : Nat) : Int) / 8 = n := by omega
  repeat' (first | ((with_reducible refine cons_list ?_); first | ((first | refine g_skip stp_list ?_ | refine g_move stp_list ?_ | refine g_assign stp_list ?_ | refine g_load1 stp_list own_st hS ?_ | refine g_loadR stp_list own_st hS ?_ | refine g_indexAddr stp_list ?_ | refine g_indexAddrA stp_list ?_ | refine g_len stp_list ?_ | refine g_cap stp_list ?_ | refine g_extract stp_list ?_ | refine g_add stp_list ?_ | refine g_sub stp_list ?_ | refine g_mul stp_list ?_ | refine g_quo stp_list ?_ | refine g_rem stp_list ?_ | refine g_cmp_t stp_list ?_ | refine g_cmp_f stp_list ?_ | refine g_cmp stp_list (fun hc => ?_) (fun hc => ?_) | refine g_neqNil stp_list ?_ | refine g_neqNil0 stp_list ?_ | refine g_eqlNil stp_list ?_ | refine g_eqlNil0 stp_list ?_ | refine g_fieldAddr stp_list ?_ | refine g_field1 stp_list ?_ | refine g_fieldR stp_list ?_ | refine g_eqlSlNil stp_list ?_ | refine g_neqSlNil stp_list ?_ | refine g_makeInterface stp_list ?_ | refine g_makeFunc stp_list ?_ | refine g_conv stp_list ?_ | refine g_pick stp_list ?_ | refine g_not stp_list ?_ | refine g_slice stp_list ?_ | refine g_sliceA stp_list ?_ | refine g_sliceNil stp_list ?_) <;> refine put_in ?_) | ((first | refine g_alloc stp_list own_st hS ?_ | refine g_box stp_list own_st hS ?_ | refine g_build0 stp_list own_st hS ?_ | refine g_build stp_list own_st hS ?_ | refine g_make stp_list own_st hS ?_); clear hS; intro b w hS; refine put_in ?_) | ((first | refine g_store1 stp_list own_st hS ?_ | refine g_storeR stp_list own_st hS ?_); clear hS; intro w hS; refine put_in ?_) | fail) | ((fail_if_success (with_reducible refine cons_list ?_)); first | go_step | go_step3 | rw [Exit.noGoto_normal] | rw [Exit.noGoto_ret] | rw [Exit.noGoto_exit]))
  rename_i ga wga KK hKK
  refine s_append stp_list own_st hS (by rfl) (by rfl) (by rfl) (by rfl) (by infer_instance) (by exact at_ 0 rfl) (olds := []) (spare := []) (by rfl) (by rfl) (by omega) (by rfl) (ht1.below hS.below).srcs (by rw [List.length_map, Nat.mul_one]) (bv_one l) (by unfold maxLen; omega) (by (try conv => lhs; simp only [Int.toNat_natCast, Int.toNat_zero, Int.toNat_one, Int.reduceToNat, Int.toNat_natCast_add_one, Int.ofNat_eq_natCast, Nat.mul_one, Nat.one_mul, Nat.zero_add, Nat.add_zero, Nat.sub_zero, Nat.zero_mul, Nat.reduceAdd, Nat.reduceMul, Nat.reduceSub]); first | done | rfl) ?_
  clear hS
  intro go co spo w2 ho1 ho2 ho3 hS
  refine put_in ?_
  rw [h8n]
  obtain ⟨X, hX⟩ : ∃ X : Nat → List UInt8 × List UInt8, X = fun k => wSteps (sealV key) n (a6L, l) k := ⟨_, rfl⟩
  have hXz : X 0 = (a6L, l) := by rw [hX]; exact wSteps_zero _ _ _
  have hXs : ∀ k, X (k + 1) = wStep (sealV key) n (X k) k := fun k => by rw [hX]; exact wSteps_succ _ _ _ _
  have hXf : ∀ k, InForm n (X k) := fun k => by rw [hX]; exact wSteps_form (seal_len' h) (by omega) (x := (a6L, l)) ⟨rfl, hn⟩ k
  have hXe : wrapV key l = (X (6 * n)).1 ++ (X (6 * n)).2 := by rw [hX]; unfold wrapV wrapX; rw [show l.length / 8 = n by omega]
  clear hX
  have HN := hid hn
  have hS : St w1 w2 [(go, (l.map bv ++ spo).toArray, 5), (ga, bvs a6L, 5)] := hS
  repeat' (first | ((with_reducible refine cons_list ?_); first | ((first | refine g_skip stp_list ?_ | refine g_move stp_list ?_ | refine g_assign stp_list ?_ | refine g_load1 stp_list own_st hS ?_ | refine g_loadR stp_list own_st hS ?_ | refine g_indexAddr stp_list ?_ | refine g_indexAddrA stp_list ?_ | refine g_len stp_list ?_ | refine g_cap stp_list ?_ | refine g_extract stp_list ?_ | refine g_add stp_list ?_ | refine g_sub stp_list ?_ | refine g_mul stp_list ?_ | refine g_quo stp_list ?_ | refine g_rem stp_list ?_ | refine g_cmp_t stp_list ?_ | refine g_cmp_f stp_list ?_ | refine g_cmp stp_list (fun hc => ?_) (fun hc => ?_) | refine g_neqNil stp_list ?_ | refine g_neqNil0 stp_list ?_ | refine g_eqlNil stp_list ?_ | refine g_eqlNil0 stp_list ?_ | refine g_fieldAddr stp_list ?_ | refine g_field1 stp_list ?_ | refine g_fieldR stp_list ?_ | refine g_eqlSlNil stp_list ?_ | refine g_neqSlNil stp_list ?_ | refine g_makeInterface stp_list ?_ | refine g_makeFunc stp_list ?_ | refine g_conv stp_list ?_ | refine g_pick stp_list ?_ | refine g_not stp_list ?_ | refine g_slice stp_list ?_ | refine g_sliceA stp_list ?_ | refine g_sliceNil stp_list ?_) <;> refine put_in ?_) | ((first | refine g_alloc stp_list own_st hS ?_ | refine g_box stp_list own_st hS ?_ | refine g_build0 stp_list own_st hS ?_ | refine g_build stp_list own_st hS ?_ | refine g_make stp_list own_st hS ?_); clear hS; intro b w hS; refine put_in ?_) | ((first | refine g_store1 stp_list own_st hS ?_ | refine g_storeR stp_list own_st hS ?_); clear hS; intro w hS; refine put_in ?_)) | ((fail_if_success (with_reducible refine cons_list ?_)); first | go_step | go_step3 | rw [Exit.noGoto_normal] | rw [Exit.noGoto_ret] | rw [Exit.noGoto_exit]))
  go_loopw [11, 12] (fun u11 u12 wr => ∃ j : Nat, j ≤ 6 ∧ u12 = .int .i64 (j : Int) ∧ u11 = .int .i64 ((j * n : Nat) : Int) ∧ St w1 wr [(go, ((X (j * n)).2.map bv ++ spo).toArray, 5), (ga, bvs (X (j * n)).1, 5)]) (fun _ u12 _ => 6 - (intOf u12).toNat)
  case atStart => exact ⟨0, by omega, rfl, by rw [Nat.zero_mul]; rfl, by rw [Nat.zero_mul, hXz]; exact hS⟩
  case round =>
    obtain ⟨j, hj, rfl, rfl, hS⟩ := hrel
    by_cases hlt : j < 6
    · repeat' (first | ((with_reducible refine cons_list ?_); first | ((first | refine g_skip stp_list ?_ | refine g_move stp_list ?_ | refine g_assign stp_list ?_ | refine g_load1 stp_list own_st hS ?_ | refine g_loadR stp_list own_st hS ?_ | refine g_indexAddr stp_list ?_ | refine g_indexAddrA stp_list ?_ | refine g_len stp_list ?_ | refine g_cap stp_list ?_ | refine g_extract stp_list ?_ | refine g_add stp_list ?_ | refine g_sub stp_list ?_ | refine g_mul stp_list ?_ | refine g_quo stp_list ?_ | refine g_rem stp_list ?_ | refine g_cmp_t stp_list ?_ | refine g_cmp_f stp_list ?_ | refine g_cmp stp_list (fun hc => ?_) (fun hc => ?_) | refine g_neqNil stp_list ?_ | refine g_neqNil0 stp_list ?_ | refine g_eqlNil stp_list ?_ | refine g_eqlNil0 stp_list ?_ | refine g_fieldAddr stp_list ?_ | refine g_field1 stp_list ?_ | refine g_fieldR stp_list ?_ | refine g_eqlSlNil stp_list ?_ | refine g_neqSlNil stp_list ?_ | refine g_makeInterface stp_list ?_ | refine g_makeFunc stp_list ?_ | refine g_conv stp_list ?_ | refine g_pick stp_list ?_ | refine g_not stp_list ?_ | refine g_slice stp_list ?_ | refine g_sliceA stp_list ?_ | refine g_sliceNil stp_list ?_) <;> refine put_in ?_) | ((first | refine g_alloc stp_list own_st hS ?_ | refine g_box stp_list own_st hS ?_ | refine g_build0 stp_list own_st hS ?_ | refine g_build stp_list own_st hS ?_ | refine g_make stp_list own_st hS ?_); clear hS; intro b w hS; refine put_in ?_) | ((first | refine g_store1 stp_list own_st hS ?_ | refine g_storeR stp_list own_st hS ?_); clear hS; intro w hS; refine put_in ?_)) | ((fail_if_success (with_reducible refine cons_list ?_)); first | go_step | go_step3 | rw [Exit.noGoto_normal] | rw [Exit.noGoto_ret] | rw [Exit.noGoto_exit]))
      go_loopw [11, 13] (fun u11 u13 wr => ∃ i : Nat, i ≤ n ∧ u13 = .int .i64 (i : Int) ∧ u11 = .int .i64 ((j * n + i : Nat) : Int) ∧ St w1 wr [(go, ((X (j * n + i)).2.map bv ++ spo).toArray, 5), (ga, bvs (X (j * n + i)).1, 5)]) (fun _ u13 _ => n - (intOf u13).toNat)
      case atStart => exact ⟨0, by omega, rfl, rfl, hS⟩
      case round =>
        obtain ⟨i, hi, rfl, rfl, hS⟩ := hrel
        by_cases hlt2 : i < n
        · obtain ⟨s, hs⟩ : ∃ s, s = j * n + i := ⟨_, rfl⟩
          rw [← hs] at hS ⊢
          have hmod : s % n = i := by rw [hs, Nat.add_comm, Nat.add_mul_mod_self_right]; exact Nat.mod_eq_of_lt hlt2
          have hsb : s < 384 := by
            have : j * n ≤ 5 * 64 := Nat.mul_le_mul (by omega) (by omega)
            omega
          obtain ⟨f1, f2⟩ := hXf s
          obtain ⟨A, hA⟩ : ∃ A, A = (X s).1 := ⟨_, rfl⟩
          obtain ⟨R, hRr⟩ : ∃ R, R = (X s).2 := ⟨_, rfl⟩
          rw [← hA, ← hRr] at hS
          rw [← hA] at f1
          rw [← hRr] at f2
          have g3 := wordAt_len (l := R) (i := i) (by omega)
          repeat' (first | ((with_reducible refine cons_list ?_); first | ((first | refine g_skip stp_list ?_ | refine g_move stp_list ?_ | refine g_assign stp_list ?_ | refine g_load1 stp_list own_st hS ?_ | refine g_loadR stp_list own_st hS ?_ | refine g_indexAddr stp_list ?_ | refine g_indexAddrA stp_list ?_ | refine g_len stp_list ?_ | refine g_cap stp_list ?_ | refine g_extract stp_list ?_ | refine g_add stp_list ?_ | refine g_sub stp_list ?_ | refine g_mul stp_list ?_ | refine g_quo stp_list ?_ | refine g_rem stp_list ?_ | refine g_cmp_t stp_list ?_ | refine g_cmp_f stp_list ?_ | refine g_cmp stp_list (fun hc => ?_) (fun hc => ?_) | refine g_neqNil stp_list ?_ | refine g_neqNil0 stp_list ?_ | refine g_eqlNil stp_list ?_ | refine g_eqlNil0 stp_list ?_ | refine g_fieldAddr stp_list ?_ | refine g_field1 stp_list ?_ | refine g_fieldR stp_list ?_ | refine g_eqlSlNil stp_list ?_ | refine g_neqSlNil stp_list ?_ | refine g_makeInterface stp_list ?_ | refine g_makeFunc stp_list ?_ | refine g_conv stp_list ?_ | refine g_pick stp_list ?_ | refine g_not stp_list ?_ | refine g_slice stp_list ?_ | refine g_sliceA stp_list ?_ | refine g_sliceNil stp_list ?_) <;> refine put_in ?_) | ((first | refine g_alloc stp_list own_st hS ?_ | refine g_box stp_list own_st hS ?_ | refine g_build0 stp_list own_st hS ?_ | refine g_build stp_list own_st hS ?_ | refine g_make stp_list own_st hS ?_); clear hS; intro b w hS; refine put_in ?_) | ((first | refine g_store1 stp_list own_st hS ?_ | refine g_storeR stp_list own_st hS ?_); clear hS; intro w hS; refine put_in ?_)) | ((fail_if_success (with_reducible refine cons_list ?_)); first | go_step | go_step3 | rw [Exit.noGoto_normal] | rw [Exit.noGoto_ret] | rw [Exit.noGoto_exit]))
          go_loopw [15] (fun u15 wr => ∃ x : Nat, x ≤ 8 ∧ u15 = .int .i64 (x : Int) ∧ St w1 wr [(b, bvs (fillK A (wordAt R i) x), 61), (go, (R.map bv ++ spo).toArray, 5), (ga, bvs A, 5)]) (fun u15 _ => 8 - (intOf u15).toNat)
          case atStart => exact ⟨0, by omega, rfl, by rw [fillK_zero]; exact hS⟩
          case round =>
            obtain ⟨x, hx, rfl, hS⟩ := hrel
            by_cases hlt3 : x < 8
            · obtain ⟨K, hK⟩ : ∃ K, K = fillK A (wordAt R i) x := ⟨_, rfl⟩
              rw [← hK] at hS
              have hKl : K.length = 16 := by rw [hK]; exact fillK_len _ _ _
              have hRl : 8 * n ≤ csz ((R.map bv ++ spo).toArray) := by rw [csz_list, List.length_append, List.length_map]; omega
              repeat' (first | ((with_reducible refine cons_list ?_); first | ((first | refine g_skip stp_list ?_ | refine g_move stp_list ?_ | refine g_assign stp_list ?_ | refine g_load1 stp_list own_st hS ?_ (hv := by first | rfl | exact bvs_getLA | (rw [Array.getElem?_toList]; exact cell_pre (by omega))) | refine g_loadR stp_list own_st hS ?_ (hv := by first | exact cut_whole _ _ (by (try simp only [csz_setc, csz_bvs, csz_list, List.length_append, List.length_set, zs_len, List.length_take, List.length_drop, List.length_cons, List.length_nil]); first | done | rfl | omega) | (exact cell_pre (by omega)) | rfl) | refine g_indexAddr stp_list ?_ | refine g_indexAddrA stp_list ?_ | refine g_len stp_list ?_ | refine g_cap stp_list ?_ | refine g_extract stp_list ?_ | refine g_add stp_list ?_ | refine g_sub stp_list ?_ | refine g_mul stp_list ?_ | refine g_quo stp_list ?_ | refine g_rem stp_list ?_ | refine g_cmp_t stp_list ?_ | refine g_cmp_f stp_list ?_ | refine g_cmp stp_list (fun hc => ?_) (fun hc => ?_) | refine g_neqNil stp_list ?_ | refine g_neqNil0 stp_list ?_ | refine g_eqlNil stp_list ?_ | refine g_eqlNil0 stp_list ?_ | refine g_fieldAddr stp_list ?_ | refine g_field1 stp_list ?_ (hv' := by first | rfl | exact bvs_getLA | (rw [Array.getElem?_toList]; exact cell_pre (by omega))) | refine g_fieldR stp_list ?_ | refine g_eqlSlNil stp_list ?_ | refine g_neqSlNil stp_list ?_ | refine g_makeInterface stp_list ?_ | refine g_makeFunc stp_list ?_ | refine g_conv stp_list ?_ | refine g_pick stp_list ?_ | refine g_not stp_list ?_ | refine g_slice stp_list ?_ | refine g_sliceA stp_list ?_ | refine g_sliceNil stp_list ?_) <;> refine put_in ?_) | ((first | refine g_alloc stp_list own_st hS ?_ | refine g_box stp_list own_st hS ?_ | refine g_build0 stp_list own_st hS ?_ | refine g_build stp_list own_st hS ?_ | refine g_make stp_list own_st hS ?_); clear hS; intro b w hS; refine put_in ?_) | ((first | refine g_store1 stp_list own_st hS ?_ | refine g_storeR stp_list own_st hS ?_); clear hS; intro w hS; refine put_in ?_)) | ((fail_if_success (with_reducible refine cons_list ?_)); first | go_step | go_step3 | rw [Exit.noGoto_normal] | rw [Exit.noGoto_ret] | rw [Exit.noGoto_exit]))
              have hKK : ((bvs K).setIfInBounds x (.int .u8 ((A.getD x 0).toNat : Int))).setIfInBounds (8 + (x : Int)).toNat (.int .u8 ((R.getD (8 * (i : Int) + (x : Int)).toNat 0).toNat : Int)) = bvs (fillK A (wordAt R i) (x + 1)) := by
                rw [show (8 + (x : Int)).toNat = 8 + x by omega, show (8 * (i : Int) + (x : Int)).toNat = 8 * i + x by omega, bvs_set, bvs_set, ← wordAt_getD hlt3, hK, fillK_succ _ _ hlt3]
              rw [hKK] at hS
              go_roundw
              case rel => exact ⟨x + 1, by omega, by push_cast; rfl, hS⟩
              case measure => first | (simp [intOf]; done) | (simp [intOf]; omega)
            · obtain rfl : x = 8 := by omega
              rw [fillK_done f1 g3] at hS
              have g4 : (A ++ wordAt R i).length = 16 := by rw [List.length_append, f1, g3]
              repeat' (first | ((with_reducible refine cons_list ?_); first | ((first | refine g_skip stp_list ?_ | refine g_move stp_list ?_ | refine g_assign stp_list ?_ | refine g_load1 stp_list own_st hS ?_ | refine g_loadR stp_list own_st hS ?_ | refine g_indexAddr stp_list ?_ | refine g_indexAddrA stp_list ?_ | refine g_len stp_list ?_ | refine g_cap stp_list ?_ | refine g_extract stp_list ?_ | refine g_add stp_list ?_ | refine g_sub stp_list ?_ | refine g_mul stp_list ?_ | refine g_quo stp_list ?_ | refine g_rem stp_list ?_ | refine g_cmp_t stp_list ?_ | refine g_cmp_f stp_list ?_ | refine g_cmp stp_list (fun hc => ?_) (fun hc => ?_) | refine g_neqNil stp_list ?_ | refine g_neqNil0 stp_list ?_ | refine g_eqlNil stp_list ?_ | refine g_eqlNil0 stp_list ?_ | refine g_fieldAddr stp_list ?_ | refine g_field1 stp_list ?_ | refine g_fieldR stp_list ?_ | refine g_eqlSlNil stp_list ?_ | refine g_neqSlNil stp_list ?_ | refine g_makeInterface stp_list ?_ | refine g_makeFunc stp_list ?_ | refine g_conv stp_list ?_ | refine g_pick stp_list ?_ | refine g_not stp_list ?_ | refine g_slice stp_list ?_ | refine g_sliceA stp_list ?_ | refine g_sliceNil stp_list ?_) <;> refine put_in ?_) | ((first | refine g_alloc stp_list own_st hS ?_ | refine g_box stp_list own_st hS ?_ | refine g_build0 stp_list own_st hS ?_ | refine g_build stp_list own_st hS ?_ | refine g_make stp_list own_st hS ?_); clear hS; intro b w hS; refine put_in ?_) | ((first | refine g_store1 stp_list own_st hS ?_ | refine g_storeR stp_list own_st hS ?_); clear hS; intro w hS; refine put_in ?_)) | ((fail_if_success (with_reducible refine cons_list ?_)); first | go_step | go_step3 | rw [Exit.noGoto_normal] | rw [Exit.noGoto_ret] | rw [Exit.noGoto_exit]))
              (refine g_callq stp_list own_st hS (refSeal_any key _ h g4 hkl _ _ (hR.below hS.below)) ?_; clear hS; intro w hS; refine put_in ?_)
              obtain ⟨y, hy⟩ : ∃ y, y = sealV key (A ++ wordAt R i) := ⟨_, rfl⟩
              have g5 : y.length = 16 := by rw [hy]; exact seal_len' h _ g4
              rw [← hy]
              repeat' (first | ((with_reducible refine cons_list ?_); first | ((first | refine g_skip stp_list ?_ | refine g_move stp_list ?_ | refine g_assign stp_list ?_ | refine g_load1 stp_list own_st hS ?_ | refine g_loadR stp_list own_st hS ?_ | refine g_indexAddr stp_list ?_ | refine g_indexAddrA stp_list ?_ | refine g_len stp_list ?_ | refine g_cap stp_list ?_ | refine g_extract stp_list ?_ | refine g_add stp_list ?_ | refine g_sub stp_list ?_ | refine g_mul stp_list ?_ | refine g_quo stp_list ?_ | refine g_rem stp_list ?_ | refine g_cmp_t stp_list ?_ | refine g_cmp_f stp_list ?_ | refine g_cmp stp_list (fun hc => ?_) (fun hc => ?_) | refine g_neqNil stp_list ?_ | refine g_neqNil0 stp_list ?_ | refine g_eqlNil stp_list ?_ | refine g_eqlNil0 stp_list ?_ | refine g_fieldAddr stp_list ?_ | refine g_field1 stp_list ?_ | refine g_fieldR stp_list ?_ | refine g_eqlSlNil stp_list ?_ | refine g_neqSlNil stp_list ?_ | refine g_makeInterface stp_list ?_ | refine g_makeFunc stp_list ?_ | refine g_conv stp_list ?_ | refine g_pick stp_list ?_ | refine g_not stp_list ?_ | refine g_slice stp_list ?_ | refine g_sliceA stp_list ?_ | refine g_sliceNil stp_list ?_) <;> refine put_in ?_) | ((first | refine g_alloc stp_list own_st hS ?_ | refine g_box stp_list own_st hS ?_ | refine g_build0 stp_list own_st hS ?_ | refine g_build stp_list own_st hS ?_ | refine g_make stp_list own_st hS ?_); clear hS; intro b w hS; refine put_in ?_) | ((first | refine g_store1 stp_list own_st hS ?_ | refine g_storeR stp_list own_st hS ?_); clear hS; intro w hS; refine put_in ?_)) | ((fail_if_success (with_reducible refine cons_list ?_)); first | go_step | go_step3 | rw [Exit.noGoto_normal] | rw [Exit.noGoto_ret] | rw [Exit.noGoto_exit]))
              go_loopw [16, 17] (fun u16 u17 wr => ∃ x : Nat, x ≤ 8 ∧ u17 = .int .i64 ((x : Int) - 1) ∧ u16 = .int .i64 (((s + 1) / 256 ^ (8 - x) : Nat) : Int) ∧ St w1 wr [(b, bvs y, 61), (go, ((turnR R y i x).map bv ++ spo).toArray, 5), (ga, bvs (turnA A y (s + 1) x), 5)]) (fun _ u17 _ => (intOf u17 + 1).toNat)
              case atStart => exact ⟨8, by omega, rfl, by simp, by rw [turnR_full, turnA_full f1]; exact hS⟩
              case round =>
                obtain ⟨x1, hx1, rfl, rfl, hS⟩ := hrel
                by_cases hx0 : 0 < x1
                · obtain ⟨x, rfl⟩ : ∃ x, x1 = x + 1 := ⟨x1 - 1, by omega⟩
                  rw [show ((x + 1 : Nat) : Int) - 1 = (x : Int) by omega]
                  have hlt4 : x < 8 := by omega
                  obtain ⟨T, hT⟩ : ∃ T, T = (s + 1) / 256 ^ (8 - (x + 1)) := ⟨_, rfl⟩
                  have hTb : T ≤ 385 := by rw [hT]; exact Nat.le_trans (Nat.div_le_self _ _) (by omega)
                  have hT7 : T = (s + 1) / 256 ^ (7 - x) := by rw [hT, show 8 - (x + 1) = 7 - x by omega]
                  rw [← hT]
                  obtain ⟨K, hK⟩ : ∃ K, K = turnA A y (s + 1) (x + 1) := ⟨_, rfl⟩
                  obtain ⟨R2, hR2⟩ : ∃ R2, R2 = turnR R y i (x + 1) := ⟨_, rfl⟩
                  rw [← hK, ← hR2] at hS
                  have hKl : K.length = 8 := by rw [hK]; exact turnA_len _ _ _ _
                  have hR2l : R2.length = 8 * n := by rw [hR2, turnR_len]; exact f2
                  have hRl : (R2.map bv).length = 8 * n := by rw [List.length_map]; exact hR2l
                  repeat' (first | ((with_reducible refine cons_list ?_); first | ((first | refine g_skip stp_list ?_ | refine g_move stp_list ?_ | refine g_assign stp_list ?_ | refine g_load1 stp_list own_st hS ?_ (hv := by first | rfl | exact bvs_getLA | (rw [Array.getElem?_toList]; exact cell_pre (by omega))) | refine g_loadR stp_list own_st hS ?_ (hv := by first | exact cut_whole _ _ (by (try simp only [csz_setc, csz_bvs, csz_list, List.length_append, List.length_set, zs_len, List.length_take, List.length_drop, List.length_cons, List.length_nil]); first | done | rfl | omega) | (exact cell_pre (by omega)) | rfl) | refine g_indexAddr stp_list ?_ | refine g_indexAddrA stp_list ?_ | refine g_len stp_list ?_ | refine g_cap stp_list ?_ | refine g_extract stp_list ?_ | refine g_add stp_list ?_ | refine g_sub stp_list ?_ | refine g_mul stp_list ?_ | refine g_quo stp_list ?_ | refine g_rem stp_list ?_ | refine g_cmp_t stp_list ?_ | refine g_cmp_f stp_list ?_ | refine g_cmp stp_list (fun hc => ?_) (fun hc => ?_) | refine g_neqNil stp_list ?_ | refine g_neqNil0 stp_list ?_ | refine g_eqlNil stp_list ?_ | refine g_eqlNil0 stp_list ?_ | refine g_fieldAddr stp_list ?_ | refine g_field1 stp_list ?_ (hv' := by first | rfl | exact bvs_getLA | (rw [Array.getElem?_toList]; exact cell_pre (by omega))) | refine g_fieldR stp_list ?_ | refine g_eqlSlNil stp_list ?_ | refine g_neqSlNil stp_list ?_ | refine g_makeInterface stp_list ?_ | refine g_makeFunc stp_list ?_ | refine g_conv stp_list ?_ | refine g_pick stp_list ?_ | refine g_not stp_list ?_ | refine g_slice stp_list ?_ | refine g_sliceA stp_list ?_ | refine g_sliceNil stp_list ?_) <;> refine put_in ?_) | ((first | refine g_alloc stp_list own_st hS ?_ | refine g_box stp_list own_st hS ?_ | refine g_build0 stp_list own_st hS ?_ | refine g_build stp_list own_st hS ?_ | refine g_make stp_list own_st hS ?_); clear hS; intro b w hS; refine put_in ?_) | ((first | refine g_store1 stp_list own_st hS ?_ | refine g_storeR stp_list own_st hS ?_); clear hS; intro w hS; refine put_in ?_) | (refine Stp.go stp_list (by rfl) (by rfl) (r_xor8c (n := UInt8.ofNat T) (by rfl) (by rfl) (by rfl) (byte_low T) rfl) ?_; refine put_in ?_)) | ((fail_if_success (with_reducible refine cons_list ?_)); first | go_step | go_step3 | rw [Exit.noGoto_normal] | rw [Exit.noGoto_ret] | rw [Exit.noGoto_exit]))
                  have hKK : (bvs K).setIfInBounds x (.int .u8 ((y.getD x 0 ^^^ UInt8.ofNat T).toNat : Int)) = bvs (turnA A y (s + 1) x) := by
                    rw [bvs_set, hK, hT7, turnA_step _ _ _ hlt4]
                  have hRR : ((R2.map bv ++ spo).toArray).setIfInBounds (8 * (i : Int) + (x : Int)).toNat (.int .u8 ((y.getD (8 + (x : Int)).toNat 0).toNat : Int)) = ((turnR R y i x).map bv ++ spo).toArray := by
                    rw [show (8 + (x : Int)).toNat = 8 + x by omega, show (8 * (i : Int) + (x : Int)).toNat = 8 * i + x by omega, pre_set (by omega), hR2, turnR_step _ _ _ hlt4]
                  rw [hKK] at hS
                  rw [List.setIfInBounds_toArray] at hRR
                  rw [hRR] at hS
                  go_roundw
                  case rel => exact ⟨x, by omega, by rfl, by rw [hT7, show 8 - x = (7 - x) + 1 by omega, Nat.pow_succ, ← Nat.div_div_eq_div_mul]; rfl, hS⟩
                  case measure => first | (simp [intOf]; done) | (simp [intOf]; omega)
                · obtain rfl : x1 = 0 := by omega
                  have hstep : X (s + 1) = (turnA A y (s + 1) 0, turnR R y i 0) := by
                    rw [hXs, turnA_done g5, turnR_done (by omega) g5, ← hmod]
                    have e2 : X s = (A, R) := by rw [hA, hRr]
                    rw [e2]
                    exact wStep_of (by rw [hmod]; exact hy.symm)
                  have hS2 := own_st.drop hS
                  have e3 : turnR R y i 0 = (X (s + 1)).2 := by rw [hstep]
                  have e4 : turnA A y (s + 1) 0 = (X (s + 1)).1 := by rw [hstep]
                  rw [e3, e4] at hS2
                  repeat' (first | ((with_reducible refine cons_list ?_); first | ((first | refine g_skip stp_list ?_ | refine g_move stp_list ?_ | refine g_assign stp_list ?_ | refine g_load1 stp_list own_st hS ?_ | refine g_loadR stp_list own_st hS ?_ | refine g_indexAddr stp_list ?_ | refine g_indexAddrA stp_list ?_ | refine g_len stp_list ?_ | refine g_cap stp_list ?_ | refine g_extract stp_list ?_ | refine g_add stp_list ?_ | refine g_sub stp_list ?_ | refine g_mul stp_list ?_ | refine g_quo stp_list ?_ | refine g_rem stp_list ?_ | refine g_cmp_t stp_list ?_ | refine g_cmp_f stp_list ?_ | refine g_cmp stp_list (fun hc => ?_) (fun hc => ?_) | refine g_neqNil stp_list ?_ | refine g_neqNil0 stp_list ?_ | refine g_eqlNil stp_list ?_ | refine g_eqlNil0 stp_list ?_ | refine g_fieldAddr stp_list ?_ | refine g_field1 stp_list ?_ | refine g_fieldR stp_list ?_ | refine g_eqlSlNil stp_list ?_ | refine g_neqSlNil stp_list ?_ | refine g_makeInterface stp_list ?_ | refine g_makeFunc stp_list ?_ | refine g_conv stp_list ?_ | refine g_pick stp_list ?_ | refine g_not stp_list ?_ | refine g_slice stp_list ?_ | refine g_sliceA stp_list ?_ | refine g_sliceNil stp_list ?_) <;> refine put_in ?_) | ((first | refine g_alloc stp_list own_st hS ?_ | refine g_box stp_list own_st hS ?_ | refine g_build0 stp_list own_st hS ?_ | refine g_build stp_list own_st hS ?_ | refine g_make stp_list own_st hS ?_); clear hS; intro b w hS; refine put_in ?_) | ((first | refine g_store1 stp_list own_st hS ?_ | refine g_storeR stp_list own_st hS ?_); clear hS; intro w hS; refine put_in ?_)) | ((fail_if_success (with_reducible refine cons_list ?_)); first | go_step | go_step3 | rw [Exit.noGoto_normal] | rw [Exit.noGoto_ret] | rw [Exit.noGoto_exit]))
                  go_roundw
                  case rel => exact ⟨i + 1, by omega, by push_cast; rfl, by rw [hs]; rfl, by rw [← Nat.add_assoc, ← hs]; exact hS2⟩
                  case measure => first | (simp [intOf]; done) | (simp [intOf]; omega)
        · obtain rfl : i = n := by omega
          repeat' (first | ((with_reducible refine cons_list ?_); first | ((first | refine g_skip stp_list ?_ | refine g_move stp_list ?_ | refine g_assign stp_list ?_ | refine g_load1 stp_list own_st hS ?_ | refine g_loadR stp_list own_st hS ?_ | refine g_indexAddr stp_list ?_ | refine g_indexAddrA stp_list ?_ | refine g_len stp_list ?_ | refine g_cap stp_list ?_ | refine g_extract stp_list ?_ | refine g_add stp_list ?_ | refine g_sub stp_list ?_ | refine g_mul stp_list ?_ | refine g_quo stp_list ?_ | refine g_rem stp_list ?_ | refine g_cmp_t stp_list ?_ | refine g_cmp_f stp_list ?_ | refine g_cmp stp_list (fun hc => ?_) (fun hc => ?_) | refine g_neqNil stp_list ?_ | refine g_neqNil0 stp_list ?_ | refine g_eqlNil stp_list ?_ | refine g_eqlNil0 stp_list ?_ | refine g_fieldAddr stp_list ?_ | refine g_field1 stp_list ?_ | refine g_fieldR stp_list ?_ | refine g_eqlSlNil stp_list ?_ | refine g_neqSlNil stp_list ?_ | refine g_makeInterface stp_list ?_ | refine g_makeFunc stp_list ?_ | refine g_conv stp_list ?_ | refine g_pick stp_list ?_ | refine g_not stp_list ?_ | refine g_slice stp_list ?_ | refine g_sliceA stp_list ?_ | refine g_sliceNil stp_list ?_) <;> refine put_in ?_) | ((first | refine g_alloc stp_list own_st hS ?_ | refine g_box stp_list own_st hS ?_ | refine g_build0 stp_list own_st hS ?_ | refine g_build stp_list own_st hS ?_ | refine g_make stp_list own_st hS ?_); clear hS; intro b w hS; refine put_in ?_) | ((first | refine g_store1 stp_list own_st hS ?_ | refine g_storeR stp_list own_st hS ?_); clear hS; intro w hS; refine put_in ?_)) | ((fail_if_success (with_reducible refine cons_list ?_)); first | go_step | go_step3 | rw [Exit.noGoto_normal] | rw [Exit.noGoto_ret] | rw [Exit.noGoto_exit]))
          go_roundw
          case rel => exact ⟨j + 1, by omega, by push_cast; rfl, by rw [Nat.succ_mul], by rw [Nat.succ_mul]; exact hS⟩
          case measure => first | (simp [intOf]; done) | (simp [intOf]; omega)
    · obtain rfl : j = 6 := by omega
      obtain ⟨f1, f2⟩ := hXf (6 * n)
      obtain ⟨A, hA⟩ : ∃ A, A = (X (6 * n)).1 := ⟨_, rfl⟩
      obtain ⟨R, hRr⟩ : ∃ R, R = (X (6 * n)).2 := ⟨_, rfl⟩
      rw [← hA, ← hRr] at hS hXe
      rw [← hA] at f1
      rw [← hRr] at f2
      have hR0 : R ≠ [] := by rintro rfl; simp at f2; omega
      repeat' (first | ((with_reducible refine cons_list ?_); first | ((first | refine g_skip stp_list ?_ | refine g_move stp_list ?_ | refine g_assign stp_list ?_ | refine g_load1 stp_list own_st hS ?_ | refine g_loadR stp_list own_st hS ?_ | refine g_indexAddr stp_list ?_ | refine g_indexAddrA stp_list ?_ | refine g_len stp_list ?_ | refine g_cap stp_list ?_ | refine g_extract stp_list ?_ | refine g_add stp_list ?_ | refine g_sub stp_list ?_ | refine g_mul stp_list ?_ | refine g_quo stp_list ?_ | refine g_rem stp_list ?_ | refine g_cmp_t stp_list ?_ | refine g_cmp_f stp_list ?_ | refine g_cmp stp_list (fun hc => ?_) (fun hc => ?_) | refine g_neqNil stp_list ?_ | refine g_neqNil0 stp_list ?_ | refine g_eqlNil stp_list ?_ | refine g_eqlNil0 stp_list ?_ | refine g_fieldAddr stp_list ?_ | refine g_field1 stp_list ?_ | refine g_fieldR stp_list ?_ | refine g_eqlSlNil stp_list ?_ | refine g_neqSlNil stp_list ?_ | refine g_makeInterface stp_list ?_ | refine g_makeFunc stp_list ?_ | refine g_conv stp_list ?_ | refine g_pick stp_list ?_ | refine g_not stp_list ?_ | refine g_slice stp_list ?_ | refine g_sliceA stp_list ?_ | refine g_sliceNil stp_list ?_) <;> refine put_in ?_) | ((first | refine g_alloc stp_list own_st hS ?_ | refine g_box stp_list own_st hS ?_ | refine g_build0 stp_list own_st hS ?_ | refine g_build stp_list own_st hS ?_ | refine g_make stp_list own_st hS ?_); clear hS; intro b w hS; refine put_in ?_) | ((first | refine g_store1 stp_list own_st hS ?_ | refine g_storeR stp_list own_st hS ?_); clear hS; intro w hS; refine put_in ?_)) | ((fail_if_success (with_reducible refine cons_list ?_)); first | go_step | go_step3 | rw [Exit.noGoto_normal] | rw [Exit.noGoto_ret] | rw [Exit.noGoto_exit]))
      refine s_append stp_list own_st hS (by rfl) (by rfl) (by rfl) (by rfl) (by infer_instance) (by exact at_ 1 rfl) (cs := bvs A) (olds := A.map bv) (spare := []) (by unfold bvs; simp) (by rw [List.length_map, f1]) (by omega) (by rfl) (bytesAt_mid (pre := []) (post := spo) (off := 0) (n := l.length) (c := co) (own_st.blk 0 hS rfl) rfl rfl (by rw [f2, HN.out]) (by omega)).srcs (by rw [List.length_map, f2, HN.out, Nat.mul_one]) (bv_one R) (by unfold maxLen; omega) (by (try conv => lhs; simp only [Int.toNat_natCast, Int.toNat_zero, Int.toNat_one, Int.reduceToNat, Int.toNat_natCast_add_one, Int.ofNat_eq_natCast, Nat.mul_one, Nat.one_mul, Nat.zero_add, Nat.add_zero, Nat.sub_zero, Nat.zero_mul, Nat.reduceAdd, Nat.reduceMul, Nat.reduceSub]); first | done | rfl) ?_
      clear hS
      intro g c sp w9 h1 h2 h3 hS
      refine put_in ?_
      repeat' (first | ((with_reducible refine cons_list ?_); first | ((first | refine g_skip stp_list ?_ | refine g_move stp_list ?_ | refine g_assign stp_list ?_ | refine g_load1 stp_list own_st hS ?_ | refine g_loadR stp_list own_st hS ?_ | refine g_indexAddr stp_list ?_ | refine g_indexAddrA stp_list ?_ | refine g_len stp_list ?_ | refine g_cap stp_list ?_ | refine g_extract stp_list ?_ | refine g_add stp_list ?_ | refine g_sub stp_list ?_ | refine g_mul stp_list ?_ | refine g_quo stp_list ?_ | refine g_rem stp_list ?_ | refine g_cmp_t stp_list ?_ | refine g_cmp_f stp_list ?_ | refine g_cmp stp_list (fun hc => ?_) (fun hc => ?_) | refine g_neqNil stp_list ?_ | refine g_neqNil0 stp_list ?_ | refine g_eqlNil stp_list ?_ | refine g_eqlNil0 stp_list ?_ | refine g_fieldAddr stp_list ?_ | refine g_field1 stp_list ?_ | refine g_fieldR stp_list ?_ | refine g_eqlSlNil stp_list ?_ | refine g_neqSlNil stp_list ?_ | refine g_makeInterface stp_list ?_ | refine g_makeFunc stp_list ?_ | refine g_conv stp_list ?_ | refine g_pick stp_list ?_ | refine g_not stp_list ?_ | refine g_slice stp_list ?_ | refine g_sliceA stp_list ?_ | refine g_sliceNil stp_list ?_) <;> refine put_in ?_) | ((first | refine g_alloc stp_list own_st hS ?_ | refine g_box stp_list own_st hS ?_ | refine g_build0 stp_list own_st hS ?_ | refine g_build stp_list own_st hS ?_ | refine g_make stp_list own_st hS ?_); clear hS; intro b w hS; refine put_in ?_) | ((first | refine g_store1 stp_list own_st hS ?_ | refine g_storeR stp_list own_st hS ?_); clear hS; intro w hS; refine put_in ?_)) | ((fail_if_success (with_reducible refine cons_list ?_)); first | go_step | go_step3 | rw [Exit.noGoto_normal] | rw [Exit.noGoto_ret] | rw [Exit.noGoto_exit]))
      go_ret2
      refine ⟨g, c, sp, by rw [Nat.add_comm]; rfl, by omega, Nat.le_trans hB.size (hS.2.1 _ (List.mem_cons_self ..)).1, ?_, hB.trans (hS.below.mono hB.size)⟩
      rw [hXe, List.map_append]
      exact hS.blk 0 rfl
end Go.Proofs.Ytknkkcbihaojhaa

namespace Go.Proofs.Ytknkkcbihaojhaa
open Go.ChangeShapes Go.WideShapes Go.ChangeAt Go.RowKit
attribute [local irreducible] wpList wpListIn
section
variable {P : Program} {ops : Array Oper} {W : List Oper → Act → World → Prop} {o : Oper} {rest : List Oper} {a : Act} {w : World} {v : Value} {B : Nat} {H : World → List Blk → Prop} {L : List Blk}
theorem s_appendR {x y : Operand} {t e size bytes b n c m c2 i nm : Nat} {q : Addr} {cs : Array Value} {olds spare xs : List Value} (hs : Stp P ops W) (hH : Own B H) (hS : H w L) (hw : Region.wanted o (yielded ops a.tmps) = true)
    (hop : o.op = .call { callee := .builtin .append, args := #[x, y], argTypes := #[t, t] }) (hx : evO a x = some (.slice (some ⟨b, 0, none⟩) n c)) (hy : evO a y = some (.slice (some q) m c2)) (hT : SlT P t e size bytes)
    (hi : L[i]? = some (b, cs, e)) (hcs : cs.toList = olds ++ spare) (ho : olds.length = n * size) (hsp : spare.length = (c - n) * size) (hsrc : ∀ j v, xs[j]? = some v → w.cell? (q.add j) = some v) (hxs : xs.length = m * size) (hone : ∀ v ∈ xs, v.oneCell' = true)
    (hroom : n + m ≤ c) (hnm : n + m = nm)
    (hk : ∀ w', H w' (L.set i (b, (olds ++ xs ++ spare.drop xs.length).toArray, e)) → W rest (a.put o.dst (.slice (some ⟨b, 0, none⟩) nm c)) w') : W (o :: rest) a w := by
  subst hnm
  obtain ⟨ht, inf, z, hie, hz, hsz, hby, hzs, hpos⟩ := elemB_iff hT.is
  have hd : isDefer o = false := by unfold isDefer; rw [hop]
  have hb := hH.blk i hS hi
  have hcsz : cs.size = olds.length + spare.length := by rw [← Array.length_toList, hcs, List.length_append]
  have hfit : n * inf.size + xs.length ≤ cs.size := by
    rw [hcsz, hsz, ho, hsp, hxs]
    have : m * size ≤ (c - n) * size := Nat.mul_le_mul_right _ (by omega)
    omega
  have hr := run_append_room (P := P) w t o.type e inf ht hie b n c cs hb q m c2 xs (by rw [hsz]; exact hxs) hsrc hone hroom hfit
  refine hs.go hw hd (run_app hop hx hy hr) ?_
  have hrow : (cs.toList.take (n * inf.size) ++ xs ++ cs.toList.drop (n * inf.size + xs.length)).toArray = (olds ++ xs ++ spare.drop xs.length).toArray := by
    rw [hcs, hsz, ← ho, List.take_left, List.drop_append, Nat.add_sub_cancel_left, List.drop_of_length_le (by omega), List.nil_append]
  rw [hrow]
  exact hk _ (hH.setRow i (olds ++ xs ++ spare.drop xs.length).toArray hS hi)
theorem s_appendG {x y : Operand} {t e size bytes b n c m c2 i nm : Nat} {q : Addr} {cs : Array Value} {olds spare xs : List Value} (hs : Stp P ops W) (hH : Own B H) (hS : H w L) (hw : Region.wanted o (yielded ops a.tmps) = true)
    (hop : o.op = .call { callee := .builtin .append, args := #[x, y], argTypes := #[t, t] }) (hx : evO a x = some (.slice (some ⟨b, 0, none⟩) n c)) (hy : evO a y = some (.slice (some q) m c2)) (hT : SlT P t e size bytes)
    (hi : L[i]? = some (b, cs, e)) (hcs : cs.toList = olds ++ spare) (ho : olds.length = n * size) (_hnc : n ≤ c) (hsrc : ∀ j v, xs[j]? = some v → w.cell? (q.add j) = some v) (hxs : xs.length = m * size)
    (hmax : n + m ≤ maxLen ∧ (n + m) * bytes ≤ 140737488355328) (hroom : c < n + m) (hnm : n + m = nm)
    (hk : ∀ (b' c' : Nat) (spare' : List Value) (w' : World), nm ≤ c' → c' ≤ maxLen → spare'.length = (c' - nm) * size → H w' ((b', (olds ++ xs ++ spare').toArray, e) :: L) → W rest (a.put o.dst (.slice (some ⟨b', 0, none⟩) nm c')) w') : W (o :: rest) a w := by
  subst hnm
  obtain ⟨ht, inf, z, hie, hz, hsz, hby, hzs, hpos⟩ := elemB_iff hT.is
  have hd : isDefer o = false := by unfold isDefer; rw [hop]
  have hb := hH.blk i hS hi
  have hr := run_append_grow (P := P) (w := w) t o.type e inf z ht hie hz ⟨b, 0, none⟩ n c olds (by rw [hsz]; exact ho) (fun j u hu => by
    rw [addr_add, Nat.zero_add]
    refine (cell_of_row w b j cs e _ hb).trans ?_
    rw [← Array.getElem?_toList, hcs, List.getElem?_append_left (List.getElem?_eq_some_iff.1 hu).1, hu]) q m c2 xs (by rw [hsz]; exact hxs) hsrc (by omega) (by have := hmax.1; unfold maxLen at this; omega) (growslice_fits (by omega) (by rw [hby]; exact hmax.2))
  have hcap := grownCap_ge w (n + m) c e
  have hcm := grownCap_le_maxLen w (n + m) c e hmax.1
  refine hs.go hw hd (run_app hop hx hy hr) ?_
  generalize grownCap w (n + m) c e = c' at *
  have hcell : olds.toArray ++ xs.toArray ++ Builtin.zeroCells z.cells (c' - (n + m)) = (olds ++ xs ++ (Builtin.zeroCells z.cells (c' - (n + m))).toList).toArray := by
    apply Array.ext'; simp
  rw [hcell]
  have hS1 : H w.drew L := hH.call hS ⟨rfl, rfl, rfl, Nat.le_refl _, fun _ _ => rfl⟩
  have h2 := hH.alloc (olds ++ xs ++ (Builtin.zeroCells z.cells (c' - (n + m))).toList).toArray e hS1
  refine hk _ c' _ _ hcap hcm ?_ h2
  rw [Array.length_toList, size_zeroCells, hzs]
theorem r_appendN {x y : Operand} {t e size bytes n c : Nat} {p : Addr} (hop : o.op = .call { callee := .builtin .append, args := #[x, y], argTypes := #[t, t] }) (hx : evO a x = some (.slice (some p) n c)) (hy : evO a y = some (.slice none 0 0)) (hT : SlT P t e size bytes) (hnc : n ≤ c) : (execOp a.eval o).run P w = .ok (.value (.slice (some p) n c)) w := by
  obtain ⟨ht, inf, z, hie, hz, hsz, hby, hzs, hpos⟩ := elemB_iff hT.is
  exact run_app hop hx hy (by simp [Builtin.append_, run_underlying ht, sizeOf, typeInfo, hie, Builtin.lenOf, Builtin.firstCells, hnc, storeCells])
theorem r_convB {s t : TypeId} {x : Operand} {k ks : IntKind} {n : Int} (N : Nat) (hop : o.op = .convert s t x) (hx : evO a x = some (.int k n)) (hs : IntT P s ks) (ht : IntT P t .u8) (hn : n = (N : Int)) : (execOp a.eval o).run P w = .ok (.value (.int .u8 (((UInt8.ofNat N).toNat : Nat) : Int))) w := by
  have e : IntKind.u8.wrap n = (((UInt8.ofNat N).toNat : Nat) : Int) := by
    subst hn
    have h2 : (UInt8.ofNat N).toNat = N % 256 := by simp
    rw [h2, IntKind.wrap_u8]; omega
  unfold execOp; rw [hop]
  simp only [evO_eval hx, convert, Sem.run_bind, run_underlying hs.is, run_underlying ht.is, Result.andThen_ok, Conv.intToInt, e]
  rfl
end
set_option maxRecDepth 100000 in
set_option maxHeartbeats 1000000 in
theorem copy_x (l : List UInt8) (v : Value) (w0 : World) (hv : BytesAt w0 v l) (hn : l.length ≤ 1000000000) : Calls Try.prog 12 #[v] w0 fun e w' =>
    ∃ g, e = .returned (.slice (some ⟨g, 0, none⟩) l.length (l.length + 2)) ∧ w0.heap.size ≤ g ∧ blk w' g = some (.cells (bvs (l ++ [165, 90])) 5 (0, 0)) ∧ Below w0.heap.size w0 w' := by
  obtain ⟨p, c, rfl, hc, hp0, hcell⟩ := id hv
  have hS := St.start w0
  go_enter Try.func12, Try.ntmps12
  repeat' (first | ((with_reducible refine cons_list ?_); first | ((first | refine g_skip stp_list ?_ | refine g_move stp_list ?_ | refine g_assign stp_list ?_ | refine g_load1 stp_list own_st hS ?_ | refine g_loadR stp_list own_st hS ?_ | refine g_indexAddr stp_list ?_ | refine g_indexAddrA stp_list ?_ | refine g_len stp_list ?_ | refine g_cap stp_list ?_ | refine g_extract stp_list ?_ | refine g_add stp_list ?_ | refine g_sub stp_list ?_ | refine g_mul stp_list ?_ | refine g_quo stp_list ?_ | refine g_rem stp_list ?_ | refine g_cmp_t stp_list ?_ | refine g_cmp_f stp_list ?_ | refine g_cmp stp_list (fun hc => ?_) (fun hc => ?_) | refine g_neqNil stp_list ?_ | refine g_neqNil0 stp_list ?_ | refine g_eqlNil stp_list ?_ | refine g_eqlNil0 stp_list ?_ | refine g_fieldAddr stp_list ?_ | refine g_field1 stp_list ?_ | refine g_fieldR stp_list ?_ | refine g_eqlSlNil stp_list ?_ | refine g_neqSlNil stp_list ?_ | refine g_makeInterface stp_list ?_ | refine g_makeFunc stp_list ?_ | refine g_conv stp_list ?_ | refine g_pick stp_list ?_ | refine g_not stp_list ?_ | refine g_slice stp_list ?_ | refine g_sliceA stp_list ?_ | refine g_sliceNil stp_list ?_) <;> refine put_in ?_) | ((first | refine g_alloc stp_list own_st hS ?_ | refine g_box stp_list own_st hS ?_ | refine g_build0 stp_list own_st hS ?_ | refine g_build stp_list own_st hS ?_ | refine g_make stp_list own_st hS ?_); clear hS; intro b w hS; refine put_in ?_) | ((first | refine g_store1 stp_list own_st hS ?_ | refine g_storeR stp_list own_st hS ?_); clear hS; intro w hS; refine put_in ?_)) | ((fail_if_success (with_reducible refine cons_list ?_)); first | go_step | go_step3 | rw [Exit.noGoto_normal] | rw [Exit.noGoto_ret] | rw [Exit.noGoto_exit]))
  rcases p with _ | q
  · have hc0 := hp0 rfl
    have hl : l = [] := List.eq_nil_of_length_eq_zero (by omega)
    subst hl
    subst hc0
    refine Stp.go stp_list (by rfl) (by rfl) (r_appendN (by rfl) (by rfl) (by rfl) (by infer_instance) (by omega)) ?_
    refine put_in ?_
    repeat' (first | ((with_reducible refine cons_list ?_); first | ((first | refine g_skip stp_list ?_ | refine g_move stp_list ?_ | refine g_assign stp_list ?_ | refine g_load1 stp_list own_st hS ?_ | refine g_loadR stp_list own_st hS ?_ | refine g_indexAddr stp_list ?_ | refine g_indexAddrA stp_list ?_ | refine g_len stp_list ?_ | refine g_cap stp_list ?_ | refine g_extract stp_list ?_ | refine g_add stp_list ?_ | refine g_sub stp_list ?_ | refine g_mul stp_list ?_ | refine g_quo stp_list ?_ | refine g_rem stp_list ?_ | refine g_cmp_t stp_list ?_ | refine g_cmp_f stp_list ?_ | refine g_cmp stp_list (fun hc => ?_) (fun hc => ?_) | refine g_neqNil stp_list ?_ | refine g_neqNil0 stp_list ?_ | refine g_eqlNil stp_list ?_ | refine g_eqlNil0 stp_list ?_ | refine g_fieldAddr stp_list ?_ | refine g_field1 stp_list ?_ | refine g_fieldR stp_list ?_ | refine g_eqlSlNil stp_list ?_ | refine g_neqSlNil stp_list ?_ | refine g_makeInterface stp_list ?_ | refine g_makeFunc stp_list ?_ | refine g_conv stp_list ?_ | refine g_pick stp_list ?_ | refine g_not stp_list ?_ | refine g_slice stp_list ?_ | refine g_sliceA stp_list ?_ | refine g_sliceNil stp_list ?_) <;> refine put_in ?_) | ((first | refine g_alloc stp_list own_st hS ?_ | refine g_box stp_list own_st hS ?_ | refine g_build0 stp_list own_st hS ?_ | refine g_build stp_list own_st hS ?_ | refine g_make stp_list own_st hS ?_); clear hS; intro b w hS; refine put_in ?_) | ((first | refine g_store1 stp_list own_st hS ?_ | refine g_storeR stp_list own_st hS ?_); clear hS; intro w hS; refine put_in ?_)) | ((fail_if_success (with_reducible refine cons_list ?_)); first | go_step | go_step3 | rw [Exit.noGoto_normal] | rw [Exit.noGoto_ret] | rw [Exit.noGoto_exit]))
    refine s_appendR (i := 1) stp_list own_st hS (by rfl) (by rfl) (by rfl) (by rfl) (by infer_instance) (by exact at_ 1 rfl) (olds := []) (spare := (zs 2).map bv) (by rfl) (by rfl) (by simp [zs_len]) (xs := [.int .u8 165, .int .u8 90]) (src_blk (hS.blk 0 rfl) (fun j v h => by rw [Nat.zero_add]; exact h)) (by rfl) (by intro v hv; simp only [List.mem_cons, List.not_mem_nil, or_false] at hv; rcases hv with rfl | rfl <;> rfl) (by simp) rfl ?_
    clear hS
    intro w hS
    refine put_in ?_
    repeat' (first | ((with_reducible refine cons_list ?_); first | ((first | refine g_skip stp_list ?_ | refine g_move stp_list ?_ | refine g_assign stp_list ?_ | refine g_load1 stp_list own_st hS ?_ | refine g_loadR stp_list own_st hS ?_ | refine g_indexAddr stp_list ?_ | refine g_indexAddrA stp_list ?_ | refine g_len stp_list ?_ | refine g_cap stp_list ?_ | refine g_extract stp_list ?_ | refine g_add stp_list ?_ | refine g_sub stp_list ?_ | refine g_mul stp_list ?_ | refine g_quo stp_list ?_ | refine g_rem stp_list ?_ | refine g_cmp_t stp_list ?_ | refine g_cmp_f stp_list ?_ | refine g_cmp stp_list (fun hc => ?_) (fun hc => ?_) | refine g_neqNil stp_list ?_ | refine g_neqNil0 stp_list ?_ | refine g_eqlNil stp_list ?_ | refine g_eqlNil0 stp_list ?_ | refine g_fieldAddr stp_list ?_ | refine g_field1 stp_list ?_ | refine g_fieldR stp_list ?_ | refine g_eqlSlNil stp_list ?_ | refine g_neqSlNil stp_list ?_ | refine g_makeInterface stp_list ?_ | refine g_makeFunc stp_list ?_ | refine g_conv stp_list ?_ | refine g_pick stp_list ?_ | refine g_not stp_list ?_ | refine g_slice stp_list ?_ | refine g_sliceA stp_list ?_ | refine g_sliceNil stp_list ?_) <;> refine put_in ?_) | ((first | refine g_alloc stp_list own_st hS ?_ | refine g_box stp_list own_st hS ?_ | refine g_build0 stp_list own_st hS ?_ | refine g_build stp_list own_st hS ?_ | refine g_make stp_list own_st hS ?_); clear hS; intro b w hS; refine put_in ?_) | ((first | refine g_store1 stp_list own_st hS ?_ | refine g_storeR stp_list own_st hS ?_); clear hS; intro w hS; refine put_in ?_)) | ((fail_if_success (with_reducible refine cons_list ?_)); first | go_step | go_step3 | rw [Exit.noGoto_normal] | rw [Exit.noGoto_ret] | rw [Exit.noGoto_exit]))
    go_ret
    refine ⟨_, rfl, hS.low 1 rfl, ?_, hS.below⟩
    have hb := hS.blk 1 rfl
    have e3 : ([] ++ [Value.int .u8 165, Value.int .u8 90] ++ List.drop [Value.int .u8 165, Value.int .u8 90].length ((zs 2).map bv)).toArray = bvs ([] ++ [165, 90]) := by
      unfold bvs zs
      simp
      exact ⟨rfl, rfl⟩
    rw [← e3]
    exact hb
  · refine s_appendR (i := 0) stp_list own_st hS (by rfl) (by rfl) (by rfl) (by rfl) (by infer_instance) (by exact at_ 0 rfl) (olds := []) (spare := (zs (l.length + 2)).map bv) (by rfl) (by rfl) (by rw [List.length_map, zs_len]; omega) (hv.below hS.below).srcs (by rw [List.length_map, Nat.mul_one]) (bv_one l) (by omega) (by (try conv => lhs; simp only [Int.toNat_natCast, Int.toNat_zero, Int.toNat_one, Int.reduceToNat, Int.toNat_natCast_add_one, Int.ofNat_eq_natCast, Nat.mul_one, Nat.one_mul, Nat.zero_add, Nat.add_zero, Nat.sub_zero, Nat.zero_mul, Nat.reduceAdd, Nat.reduceMul, Nat.reduceSub]); first | done | rfl) ?_
    clear hS
    intro w hS
    refine put_in ?_
    have e1 : List.drop (l.map bv).length ((zs (l.length + 2)).map bv) = (zs 2).map bv := by
      rw [List.length_map, ← List.map_drop]
      congr 1
      unfold zs
      rw [List.drop_replicate, Nat.add_sub_cancel_left]
    rw [e1] at hS
    have hS : St w0 w [(b, (l.map bv ++ (zs 2).map bv).toArray, 5)] := hS
    repeat' (first | ((with_reducible refine cons_list ?_); first | ((first | refine g_skip stp_list ?_ | refine g_move stp_list ?_ | refine g_assign stp_list ?_ | refine g_load1 stp_list own_st hS ?_ | refine g_loadR stp_list own_st hS ?_ | refine g_indexAddr stp_list ?_ | refine g_indexAddrA stp_list ?_ | refine g_len stp_list ?_ | refine g_cap stp_list ?_ | refine g_extract stp_list ?_ | refine g_add stp_list ?_ | refine g_sub stp_list ?_ | refine g_mul stp_list ?_ | refine g_quo stp_list ?_ | refine g_rem stp_list ?_ | refine g_cmp_t stp_list ?_ | refine g_cmp_f stp_list ?_ | refine g_cmp stp_list (fun hc => ?_) (fun hc => ?_) | refine g_neqNil stp_list ?_ | refine g_neqNil0 stp_list ?_ | refine g_eqlNil stp_list ?_ | refine g_eqlNil0 stp_list ?_ | refine g_fieldAddr stp_list ?_ | refine g_field1 stp_list ?_ | refine g_fieldR stp_list ?_ | refine g_eqlSlNil stp_list ?_ | refine g_neqSlNil stp_list ?_ | refine g_makeInterface stp_list ?_ | refine g_makeFunc stp_list ?_ | refine g_conv stp_list ?_ | refine g_pick stp_list ?_ | refine g_not stp_list ?_ | refine g_slice stp_list ?_ | refine g_sliceA stp_list ?_ | refine g_sliceNil stp_list ?_) <;> refine put_in ?_) | ((first | refine g_alloc stp_list own_st hS ?_ | refine g_box stp_list own_st hS ?_ | refine g_build0 stp_list own_st hS ?_ | refine g_build stp_list own_st hS ?_ | refine g_make stp_list own_st hS ?_); clear hS; intro b w hS; refine put_in ?_) | ((first | refine g_store1 stp_list own_st hS ?_ | refine g_storeR stp_list own_st hS ?_); clear hS; intro w hS; refine put_in ?_)) | ((fail_if_success (with_reducible refine cons_list ?_)); first | go_step | go_step3 | rw [Exit.noGoto_normal] | rw [Exit.noGoto_ret] | rw [Exit.noGoto_exit]))
    refine s_appendR (i := 1) stp_list own_st hS (by rfl) (by rfl) (by rfl) (by rfl) (by infer_instance) (by exact at_ 1 rfl) (olds := l.map bv) (spare := (zs 2).map bv) (by rfl) (by rw [List.length_map, Nat.mul_one]) (by rw [List.length_map, zs_len]; omega) (xs := [.int .u8 165, .int .u8 90]) (src_blk (hS.blk 0 rfl) (fun j v h => by rw [Nat.zero_add]; exact h)) (by rfl) (by intro v hv; simp only [List.mem_cons, List.not_mem_nil, or_false] at hv; rcases hv with rfl | rfl <;> rfl) (by omega) rfl ?_
    clear hS
    intro w hS
    refine put_in ?_
    repeat' (first | ((with_reducible refine cons_list ?_); first | ((first | refine g_skip stp_list ?_ | refine g_move stp_list ?_ | refine g_assign stp_list ?_ | refine g_load1 stp_list own_st hS ?_ | refine g_loadR stp_list own_st hS ?_ | refine g_indexAddr stp_list ?_ | refine g_indexAddrA stp_list ?_ | refine g_len stp_list ?_ | refine g_cap stp_list ?_ | refine g_extract stp_list ?_ | refine g_add stp_list ?_ | refine g_sub stp_list ?_ | refine g_mul stp_list ?_ | refine g_quo stp_list ?_ | refine g_rem stp_list ?_ | refine g_cmp_t stp_list ?_ | refine g_cmp_f stp_list ?_ | refine g_cmp stp_list (fun hc => ?_) (fun hc => ?_) | refine g_neqNil stp_list ?_ | refine g_neqNil0 stp_list ?_ | refine g_eqlNil stp_list ?_ | refine g_eqlNil0 stp_list ?_ | refine g_fieldAddr stp_list ?_ | refine g_field1 stp_list ?_ | refine g_fieldR stp_list ?_ | refine g_eqlSlNil stp_list ?_ | refine g_neqSlNil stp_list ?_ | refine g_makeInterface stp_list ?_ | refine g_makeFunc stp_list ?_ | refine g_conv stp_list ?_ | refine g_pick stp_list ?_ | refine g_not stp_list ?_ | refine g_slice stp_list ?_ | refine g_sliceA stp_list ?_ | refine g_sliceNil stp_list ?_) <;> refine put_in ?_) | ((first | refine g_alloc stp_list own_st hS ?_ | refine g_box stp_list own_st hS ?_ | refine g_build0 stp_list own_st hS ?_ | refine g_build stp_list own_st hS ?_ | refine g_make stp_list own_st hS ?_); clear hS; intro b w hS; refine put_in ?_) | ((first | refine g_store1 stp_list own_st hS ?_ | refine g_storeR stp_list own_st hS ?_); clear hS; intro w hS; refine put_in ?_)) | ((fail_if_success (with_reducible refine cons_list ?_)); first | go_step | go_step3 | rw [Exit.noGoto_normal] | rw [Exit.noGoto_ret] | rw [Exit.noGoto_exit]))
    go_ret
    refine ⟨_, rfl, hS.low 1 rfl, ?_, hS.below⟩
    have hb := hS.blk 1 rfl
    have e3 : (l.map bv ++ [Value.int .u8 165, Value.int .u8 90] ++ List.drop [Value.int .u8 165, Value.int .u8 90].length ((zs 2).map bv)).toArray = bvs (l ++ [165, 90]) := by
      unfold bvs zs
      simp
      exact ⟨rfl, rfl⟩
    rw [← e3]
    exact hb
/-- The bytes of a pattern. -/
def pb (k j : Nat) : UInt8 := UInt8.ofNat (29 * k + 5 * j + 3)
theorem r_convP {P : Program} {o : Oper} {a : Act} {w : World} {s t : TypeId} {x : Operand} {k ks : IntKind} {n : Int} (K J : Nat) (hop : o.op = .convert s t x) (hx : evO a x = some (.int k n)) (hs : IntT P s ks) (ht : IntT P t .u8) (hn : n = ((29 * K + 5 * J + 3 : Nat) : Int)) : (execOp a.eval o).run P w = .ok (.value (.int .u8 (((pb K J).toNat : Nat) : Int))) w := r_convB _ hop hx hs ht hn
def pat (k n : Nat) : List UInt8 := (List.range n).map (pb k)
theorem pat_len (k n : Nat) : (pat k n).length = n := by simp [pat]
theorem pat_zero (k : Nat) : pat k 0 = [] := rfl
theorem pat_succ (k n : Nat) : pat k (n + 1) = pat k n ++ [pb k n] := by simp [pat, List.range_succ]
theorem pat_get (k n j : Nat) (h : j < n) : (pat k n).getD j 0 = pb k j := by
  rw [List.getD_eq_getElem?_getD, List.getElem?_eq_getElem (by rw [pat_len]; exact h)]
  simp [pat]
theorem pat_mark (k j : Nat) (d : Value) (D : List Value) : ((pat k j).map bv ++ d :: D).set j (.int .u8 (((pb k j).toNat : Nat) : Int)) = (pat k (j + 1)).map bv ++ D := by
  rw [pat_succ, List.map_append, List.set_append_right _ _ (by rw [List.length_map, pat_len]; omega), List.length_map, pat_len, Nat.sub_self, List.set_cons_zero, List.append_assoc]
  rfl
def slLen : Value → Nat
  | .slice _ n _ => n
  | _ => 0
attribute [irreducible] pat pb
end Go.Proofs.Ytknkkcbihaojhaa
